/-
  Steps of functions, plain law, and walks of functions: what the laws rest on.
-/
import Derived.Test.YtoodfjpigminkaaSkG0d
import Derived.Test.YtoodfjpigminkaaSkG2a
import Derived.Test.YtoodfjpigminkaaSkG3a
import Derived.Test.YtoodfjpigminkaaSkG4a
import Derived.Test.YtoodfjpigminkaaSkG5a
import Derived.Test.YtoodfjpigminkaaSkG6a
import Derived.Test.YtoodfjpigminkaaSkG9a
import Derived.Test.YtoodfjpigminkaaSkG12a
import Derived.Test.YtoodfjpigminkaaSkG14a
import Derived.Test.YtoodfjpigminkaaSkG20a
import Derived.Test.YtoodfjpigminkaaSkG26a
import Derived.Test.YtoodfjpigminkaaSkG28a
import Derived.Test.YtoodfjpigminkaaSkG35a
set_option linter.unusedVariables false
set_option linter.unusedSimpArgs false
set_option linter.unusedSectionVars false
namespace Go.SK
theorem inst_raw {b op : Int} {l : List Int} {i : InstL} (hw : Wd l) (h : instF b op l = (i, 0)) : rawF b i = ((op, l), 0) ∧ i.op = op ∧ (i.args.map argRoom).sum ≤ 65535 ∧ ∀ a ∈ i.args, a.s.length ≤ 262140 := by
  obtain ⟨h1, h2, h3⟩ := inst_back hw h
  have hr := (fault_parts h2).2.2.2.2.2
  have hs : (i.args.map argRoom).sum ≤ 65535 := by unfold roomI at hr; omega
  refine ⟨?_, h1, hs, fun a ha => ?_⟩
  · rw [rawF_ok h2, h1, h3]
  · have h4 := argRoom_sum ha
    obtain ⟨c, hc⟩ := wrongL_all _ _ (fault_parts h2).2.2.2.1 a ha
    by_cases k3 : a.kind = 3
    · rw [(argW_text k3).2] at h4; omega
    · rw [(wrongA_zero hc).2.2.2.1 k3]; exact Nat.zero_le _
end Go.SK
namespace Go.SK
open Go Go.Proofs
open Go.RowKit
theorem R3law_CodeWords (op : Int) (l : List Int) (ao : Option Addr) (cp : Nat) (bound : Int) (w : World) (hw : Wd l) (hcp : l.length ≤ cp) (h0 : 0 ≤ op) (hA : (Res.rs ao l.length 1 (l.flatMap u32C)).holds w) (hl : l.length ≤ 35184372088832) : Ret Try.prog 10 #[.agg #[.int .u16 op, .slice ao l.length cp], .int .u32 bound] w (fun v w' => v = .bool true ∧ St w NoM [] [] w') := by
 refine Ret.enter (args := [.agg #[.int .u16 op, .slice ao l.length cp], .int .u32 bound]) Try.func10 rfl rfl rfl ?_
 have hst : St w NoM [] [Res.rs ao l.length 1 (l.flatMap u32C)] w := St.init_D hA
 clear hA
 obtain ⟨I, ie, hI⟩ : ∃ I ie, instF bound op l = (I, ie) := ⟨_, _, rfl⟩
 have hia := inst_args hw hI
 refine SR <| CN <| Op1.box (v := .agg #[.int .u16 _, .slice _ _ _]) hst rfl rfl fun w b2 hst => AB rfl <| NL <| SQ <| RunD.startT [(11, 12)] [] hst (bs := [0, 1, 0, 4, 12, 31, 0, 127, 255, 511, 511, 0, 3071, 8191]) (ds := [some 10, some 11, some 12, some 13, some 14, some 15, some 16, some 17, some 9, some 18, some 19, some 5, none, some 6]) ⟨by kernel_rfl, by kernel_rfl, by kernel_rfl⟩ (fun tab1 => ?_)
 refine RunD.op (det _) tab1 1 (fun f' L' w' hc => Op1.fieldAddr fld45_0 (hc.old (v := .pointer (some ⟨_, _, none⟩)) rfl rfl rfl) ⟨[], ⟨rfl, rfl⟩, hc.st⟩) <| RunD.op (det _) tab1 2 (fun f' L' w' hc => Op1.load1 (v := .int .u16 _) ty42 rfl (hc.det (j := 0) rfl rfl rfl rfl) (hc.st.cellL (List.mem_append_right _ (.head _)) rfl) ⟨[], ⟨rfl, rfl⟩, hc.st⟩) <| RunD.op (det _) tab1 3 (fun f' L' w' hc => Op1.fieldAddr fld45_1 (hc.old (v := .pointer (some ⟨_, _, none⟩)) rfl rfl rfl) ⟨[], ⟨rfl, rfl⟩, hc.st⟩) <| RunD.op (det _) tab1 4 (fun f' L' w' hc => Op1.load1 (v := .slice _ _ _) ty43 rfl (hc.det (j := 2) rfl rfl rfl rfl) (hc.st.cellL (List.mem_append_right _ (.head _)) rfl) ⟨[], ⟨rfl, rfl⟩, hc.st⟩) <| RunD.op (fun v rs => ∃ bC, v = .slice (some ⟨bC, 0, none⟩) l.length l.length ∧ rs = [Res.sl (some ⟨bC, 0, none⟩) l.length l.length 23 1 (l.flatMap u32C)]) tab1 5 (fun f' L' w' hc => Op1.call1 (v1 := .slice _ _ _) ent25 rfl (hc.det (j := 3) rfl rfl rfl rfl) ((R3wd_CopyWords l _ _ _ (hc.st.hD _ (.head _)) (by omega)).mono fun v w hp => (by obtain ⟨bC, rfl, hp⟩ := hp; exact ⟨_, ⟨bC, rfl, rfl⟩, hc.st.call0 hp⟩))) <| RunD.opR (fun g v rs => (∀ b, g 14 = .slice (some ⟨b, 0, none⟩) l.length l.length → v = .agg #[.int .u16 op, .slice (some ⟨b, 0, none⟩) l.length l.length]) ∧ rs = []) tab1 6 (fun f' L' w' hc => by obtain ⟨_, _, q1, _⟩ := hc.dep 4 14 rfl rfl; obtain ⟨b, h4, _⟩ := q1; exact Op1.buildStruct ty45 stf45 (.c (v := .int .u16 _) (hc.det (j := 1) rfl rfl rfl rfl) (h := (.c (v := .slice _ _ _) (evs h4 rfl) (h := .nil)))) ⟨[], fun g hg => ⟨fun b2 e => (by rw [hg 4 14 rfl rfl, h4] at e; cases e; rfl), rfl⟩, hc.st⟩) ?_
 refine RunD.op (det _) tab1 7 (fun f' L' w' hc => Op1.move (v := .int .u32 _) (hc.old (v := .int .u32 _) rfl rfl rfl) ⟨[], ⟨rfl, rfl⟩, hc.st⟩) <| RunD.op (fun v rs => ∃ ro rc, v = .tuple #[.agg #[.int .u16 I.op, .int .u32 I.ty, .int .u32 I.res, .slice ro I.args.length rc], .int .i64 ie] ∧ rs = [Res.sl ro I.args.length rc 71 3 (I.args.flatMap argC)]) tab1 8 (fun f' L' w' hc => by obtain ⟨_, rs, ⟨b, h4, hrs⟩, _, hm⟩ := hc.dep 4 14 rfl rfl; subst hrs; obtain ⟨g5, _, q5, hg5, _⟩ := hc.dep 5 15 rfl rfl; have h5 := q5.1 b ((hg5 4 14 rfl rfl).trans h4); exact Op1.call2 (v1 := .agg #[.int .u16 _, .slice _ _ _]) (v2 := .int .u32 _) ent26 rfl (evs h5 rfl) (hc.det (j := 6) rfl rfl rfl rfl) ((R3cd_InstD hI _ _ h0 _ (Res.rs_of_sl (hc.st.hL _ (List.mem_append_left _ (hm rfl _ (.head _))))) (by omega)).mono fun v w hp => (by obtain ⟨ro, rc, rfl, hp⟩ := hp; exact ⟨_, ⟨ro, rc, rfl, rfl⟩, hc.st.call0 hp⟩))) <| RunD.opR (fun g v rs => v = g 17 ∧ rs = []) tab1 9 (fun f' L' w' hc => Op1.move (evs rfl rfl) ⟨[], fun g hg => ⟨(hg 7 17 rfl rfl).symm, rfl⟩, hc.st⟩) <| RunD.opR (fun g v rs => (∀ ro rc, g 17 = .tuple #[.agg #[.int .u16 I.op, .int .u32 I.ty, .int .u32 I.res, .slice ro I.args.length rc], .int .i64 ie] → v = .agg #[.int .u16 I.op, .int .u32 I.ty, .int .u32 I.res, .slice ro I.args.length rc]) ∧ rs = []) tab1 10 (fun f' L' w' hc => by obtain ⟨_, _, q1, _⟩ := hc.dep 7 17 rfl rfl; obtain ⟨ro, rc, htc, _⟩ := q1; obtain ⟨gm, _, q2, hgm, _⟩ := hc.dep 8 9 rfl rfl; have htm : f' 9 = .tuple #[.agg #[.int .u16 I.op, .int .u32 I.ty, .int .u32 I.res, .slice ro I.args.length rc], .int .i64 ie] := (by rw [q2.1, hgm 7 17 rfl rfl, htc]); exact Op1.extract (v := .agg #[.int .u16 I.op, .int .u32 I.ty, .int .u32 I.res, .slice ro I.args.length rc]) (evs htm rfl) rfl ⟨[], fun g hg => ⟨fun ro2 rc2 e => (by rw [hg 7 17 rfl rfl, htc] at e; cases e; rfl), rfl⟩, hc.st⟩) <| RunD.op (det (.int .i64 ie)) tab1 11 (fun f' L' w' hc => by obtain ⟨_, _, q1, _⟩ := hc.dep 7 17 rfl rfl; obtain ⟨ro, rc, htc, _⟩ := q1; obtain ⟨gm, _, q2, hgm, _⟩ := hc.dep 8 9 rfl rfl; have htm : f' 9 = .tuple #[.agg #[.int .u16 I.op, .int .u32 I.ty, .int .u32 I.res, .slice ro I.args.length rc], .int .i64 ie] := (by rw [q2.1, hgm 7 17 rfl rfl, htc]); exact Op1.extract (v := .int .i64 ie) (evs htm rfl) rfl ⟨[], ⟨rfl, rfl⟩, hc.st⟩) <| RunD.op (fun v rs => ∃ b, v = .pointer (some ⟨b, 0, none⟩) ∧ rs = [Res.row b 48 [.int .u16 0, .int .u32 0, .int .u32 0, .slice none 0 0]]) tab1 12 (fun f' L' w' hc => Op1.alloc hc.st ty48 fun w b hst => ⟨[_], ⟨b, rfl, rfl⟩, hst⟩) <| RunD.over (fun g v rs => v = undef ∧ ∃ b, g 5 = .pointer (some ⟨b, 0, none⟩) ∧ ∀ ro rc, g 17 = .tuple #[.agg #[.int .u16 I.op, .int .u32 I.ty, .int .u32 I.res, .slice ro I.args.length rc], .int .i64 ie] → rs = [Res.row b 48 [.int .u16 I.op, .int .u32 I.ty, .int .u32 I.res, .slice ro I.args.length rc]]) tab1 13 11 5 (.head _) rfl (fun f' L' L'' w' hc hq => by obtain ⟨_, rs, hz, _, hp⟩ := hq; obtain ⟨b, hb, hrs⟩ := hz; subst hrs; obtain ⟨_, _, q1, _⟩ := hc.dep 7 17 rfl rfl; obtain ⟨ro, rc, htc, _⟩ := q1; obtain ⟨gx, _, q3, hgx, _⟩ := hc.dep 9 18 rfl rfl; have htx := q3.1 ro rc ((hgx 7 17 rfl rfl).trans htc); have hst := hc.st.perm (hp.append_right _); exact Op1.store (v := .agg #[.int .u16 _, .int .u32 _, .int .u32 _, .slice _ _ _]) hst ty48 (evs hb rfl) (evs htx rfl) rfl rfl rfl .here (by repeat (first | exact Put.nil | apply Put.put | apply Put.skip)) fun w hst => ⟨[_], fun g hg => ⟨rfl, b, (hg 11 5 rfl rfl).trans hb, fun ro2 rc2 e => (by rw [hg 7 17 rfl rfl, htc] at e; cases e; rfl)⟩, hst⟩) ?_
 refine RunD.finT followsMixed tab1 hst rfl (fun f2 w R5 hs3 hd4 hr6 hst => ?_)
 obtain ⟨h10_, r0⟩ := hd4 0 10 rfl rfl
 obtain ⟨h11_, r1⟩ := hd4 1 11 rfl rfl
 obtain ⟨h12_, r2⟩ := hd4 2 12 rfl rfl
 obtain ⟨h13_, r3⟩ := hd4 3 13 rfl rfl
 obtain ⟨bW, h14_, r4⟩ := hd4 4 14 rfl rfl
 obtain ⟨h15_, r5⟩ := hd4 5 15 rfl rfl
 replace h15_ := h15_ bW ((DrawTab.mask tab1 _ (j := 5) (l := 4) (t := 14) rfl rfl).trans h14_)
 obtain ⟨h16_, r6⟩ := hd4 6 16 rfl rfl
 obtain ⟨ro, rc, h17_, r7⟩ := hd4 7 17 rfl rfl
 obtain ⟨h9_, r8⟩ := hd4 8 9 rfl rfl
 rw [DrawTab.mask tab1 _ (j := 8) (l := 7) (t := 17) rfl rfl, h17_] at h9_
 obtain ⟨h18_, r9⟩ := hd4 9 18 rfl rfl
 replace h18_ := h18_ ro rc ((DrawTab.mask tab1 _ (j := 9) (l := 7) (t := 17) rfl rfl).trans h17_)
 obtain ⟨h19_, r10⟩ := hd4 10 19 rfl rfl
 obtain ⟨_, _, b5, h5_, r12⟩ := hr6 12 rfl
 rw [DrawTab.mask tab1 _ (j := 12) (l := 11) (t := 5) rfl rfl] at h5_
 replace r12 := r12 ro rc ((DrawTab.mask tab1 _ (j := 12) (l := 7) (t := 17) rfl rfl).trans h17_)
 simp only [show List.range 13 = [0, 1, 2, 3, 4, 5, 6, 7, 8, 9, 10, 11, 12] from rfl, List.flatMap_cons, List.flatMap_nil, List.map_cons, List.map_nil, show finR [(11, 12)] R5 0 = R5 0 from rfl, show finR [(11, 12)] R5 1 = R5 1 from rfl, show finR [(11, 12)] R5 2 = R5 2 from rfl, show finR [(11, 12)] R5 3 = R5 3 from rfl, show finR [(11, 12)] R5 4 = R5 4 from rfl, show finR [(11, 12)] R5 5 = R5 5 from rfl, show finR [(11, 12)] R5 6 = R5 6 from rfl, show finR [(11, 12)] R5 7 = R5 7 from rfl, show finR [(11, 12)] R5 8 = R5 8 from rfl, show finR [(11, 12)] R5 9 = R5 9 from rfl, show finR [(11, 12)] R5 10 = R5 10 from rfl, show finR [(11, 12)] R5 11 = [] from rfl, show finR [(11, 12)] R5 12 = R5 12 from rfl, r0, r1, r2, r3, r4, r5, r6, r7, r8, r9, r10, r12, List.nil_append, List.append_nil, List.cons_append] at hst
 refine RunL.slots (sl := [(1, .int .u32 _), (2, .pointer (some ⟨_, _, none⟩)), (5, .pointer (some ⟨_, _, none⟩)), (19, .int .i64 _)]) ⟨(hs3 1 rfl).trans rfl, (hs3 2 rfl).trans rfl, h5_, h19_, trivial⟩ ?_
 clear hs3 hd4 hr6 tab1
 refine AI rfl <| NL <| SQ <| SR <| MI rfl <| CN <| Op1.neq rfl rfl <| NL <| run_cond_dec rfl (fun g7 => ?_) (fun g7 => ?_)
 · skip
   have hz := instF_bad hI g7
   refine SR <| CN <| Op1.loadA (vs := [.int .u16 _, .int .u32 _, .int .u32 _, .slice _ _ _]) ty48 rfl rfl rfl (cells_of_obj (n := 4) (hst.objL (.tail _ (.tail _ (.head _)))) _ rfl) <| CN (Op1.buildStruct ty48 stf48 .nil ?_)
   refine CN <| Op1.call2 (v1 := .agg #[.int .u16 _, .int .u32 _, .int .u32 _, .slice _ _ _]) (v2 := .agg #[.int .u16 _, .int .u32 _, .int .u32 _, .slice _ _ _]) ent27 rfl rfl rfl <| Ret.detE (R3md_Inst (⟨I.op, I.ty, I.res, ro, rc, I.args⟩ : InstP) (⟨0, 0, 0, none, 0, []⟩ : InstP) _ (Res.rs_of_sl (hst.hL _ (.tail _ (.head _)))) ⟨rfl, .inl rfl⟩ (by (try dsimp only); omega)) (congrArg Value.bool (decide_eq_true hz)) hst fun w hst => MB rfl <| TK (t := 25) rfl (congrArg Value.bool (rfl : true = _)) (Op1.call0  ent19 rfl  ((R3law_awake _).mono fun v w hp => ?_))
   obtain ⟨rfl, hp⟩ := hp
   replace hst := hst.keepc hp
   clear hp
   refine CN <| Op1.pickT (u := .bool _) (congrArg Value.bool (rfl : true = _)) rfl <| AB rfl <| NL <| run_ret1 Try.func10 rfl (TP (v := .bool _) rfl) ?_
   exact ⟨rfl, hst.pure⟩
 have hie : ie = 0 := Classical.not_not.1 g7
 subst hie
 obtain ⟨hR, hop, hsm, htx⟩ := inst_raw hw hI
 refine run_skip <| SR <| CN <| Op1.loadA (vs := [.int .u16 _, .int .u32 _, .int .u32 _, .slice _ _ _]) ty48 rfl rfl rfl (cells_of_obj (n := 4) (hst.objL (.tail _ (.tail _ (.head _)))) _ rfl) <| CN (Op1.call1 (v1 := .agg #[.int .u16 _, .int .u32 _, .int .u32 _, .slice _ _ _]) ent31 rfl rfl ((R3md_CopyInst (⟨I.op, I.ty, I.res, ro, rc, I.args⟩ : InstP) _ (Res.rs_of_sl (hst.hL _ (.tail _ (.head _)))) (by (try dsimp only); omega)).mono fun v w hp => ?_))
 obtain ⟨bC, rfl, hp⟩ := hp
 replace hst : St _ _ (_ :: _) _ _ := hst.call0 hp
 clear hp
 refine MU rfl <| CN (Op1.call2 (v1 := .agg #[.int .u16 _, .int .u32 _, .int .u32 _, .slice _ _ _]) (v2 := .int .u32 _) ent32 rfl rfl rfl ((R3cd_Raw2 (p := (⟨I.op, I.ty, I.res, some ⟨bC, 0, none⟩, I.args.length, I.args⟩ : InstP)) hR (by (try dsimp only); omega) _ (Res.rs_of_sl (hst.hL _ (.head _))) (by (try dsimp only); omega) (fun a ha => by have := htx a ha; omega)).mono fun v w hp => ?_))
 obtain ⟨aR, cR, rfl, hp⟩ := hp
 replace hst : St _ _ (_ :: _) _ _ := hst.call0 hp
 clear hp
 refine CN <| Op1.move (v := .tuple #[.agg #[.int .u16 _, .slice _ _ _], .int .i64 _]) rfl <| CN <| Op1.extract (v := .agg #[.int .u16 _, .slice _ _ _]) rfl rfl <| CN <| Op1.extract (v := .int .i64 _) rfl rfl <| CN <| Op1.alloc hst ty45 fun w b7 hst => CN (SO (v := .agg #[.int .u16 _, .slice _ _ _]) hst ty45 rfl rfl (.here) fun w hst => ?_)
 refine AI rfl <| NL <| Run.forget [(2, .pointer (some ⟨_, _, none⟩)), (7, .pointer (some ⟨_, _, none⟩)), (8, .int .i64 _)] ⟨rfl, rfl, rfl, trivial⟩ fun f => SR <| MI rfl <| CN <| Op1.eql rfl rfl <| MB rfl <| RunL.splitD (d := 37) rfl (fun g8 => ?_) (fun g8 => ?_)
 · skip
   refine TK (t := 37) rfl (congrArg Value.bool (decide_eq_true g8)) <| Op1.fieldAddr fld45_0 rfl <| TK (t := 37) rfl (congrArg Value.bool (decide_eq_true g8)) <| Op1.load1 (v := .int .u16 _) ty42 rfl rfl (hst.cellL (.head _) rfl) <| TK (t := 37) rfl (congrArg Value.bool (decide_eq_true g8)) <| Op1.fieldAddr fld45_0 rfl <| TK (t := 37) rfl (congrArg Value.bool (decide_eq_true g8)) <| Op1.load1 (v := .int .u16 _) ty42 rfl rfl (hst.cellL (.tail _ (.tail _ (.tail _ (.tail _ (.tail _ (.tail _ (.head _))))))) rfl) <| TK (t := 37) rfl (congrArg Value.bool (decide_eq_true g8)) <| Op1.eql rfl rfl <| CN <| Op1.pickT (u := .bool _) (congrArg Value.bool (decide_eq_true g8)) rfl <| MB rfl <| RunL.splitD (d := 44) rfl (fun g9 => ?_) (fun g9 => ?_)
   · skip
     refine TK (t := 44) rfl (congrArg Value.bool (decide_eq_true g9)) <| Op1.fieldAddr fld45_1 rfl <| TK (t := 44) rfl (congrArg Value.bool (decide_eq_true g9)) <| Op1.load1 (v := .slice _ _ _) ty43 rfl rfl (hst.cellL (.head _) rfl) <| TK (t := 44) rfl (congrArg Value.bool (decide_eq_true g9)) <| Op1.fieldAddr fld45_1 rfl <| TK (t := 44) rfl (congrArg Value.bool (decide_eq_true g9)) <| Op1.load1 (v := .slice _ _ _) ty43 rfl rfl (hst.cellL (.tail _ (.tail _ (.tail _ (.tail _ (.tail _ (.tail _ (.head _))))))) rfl) <| TK (t := 44) rfl (congrArg Value.bool (decide_eq_true g9)) (Op1.call2 (v1 := .slice _ _ _) (v2 := .slice _ _ _) ent28 rfl rfl rfl ((R3wd_Words l l _ _ _ _ _ (Res.rs_of_sl (hst.hL _ (.tail _ (.head _)))) (hst.hD _ (.head _)) (by omega)).mono fun v w hp => ?_))
     obtain ⟨he, hp⟩ := hp
     replace he := he.trans (congrArg Value.bool (decide_eq_true rfl))
     subst he
     replace hst := hst.keepc hp
     clear hp
     refine CN <| Op1.pickT (u := .bool _) (congrArg Value.bool (decide_eq_true g9)) rfl <| MB rfl <| TK (t := 51) rfl (congrArg Value.bool (rfl : true = _)) (Op1.call0  ent19 rfl  ((R3law_awake _).mono fun v w hp => ?_))
     obtain ⟨rfl, hp⟩ := hp
     replace hst := hst.keepc hp
     clear hp
     refine CN <| Op1.pickT (u := .bool _) (congrArg Value.bool (rfl : true = _)) rfl <| AB rfl <| NL <| run_ret1 Try.func10 rfl (TP (v := .bool _) rfl) ?_
     exact ⟨rfl, hst.pure⟩
   exfalso
   exact g9 rfl
 exfalso
 exact g8 rfl
end Go.SK
