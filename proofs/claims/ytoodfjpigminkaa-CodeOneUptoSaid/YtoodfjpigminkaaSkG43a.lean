/-
  Steps of functions, plain law, and walks of functions: what the laws rest on.
-/
import Derived.Test.YtoodfjpigminkaaSkG0d
import Derived.Test.YtoodfjpigminkaaSkG1a
import Derived.Test.YtoodfjpigminkaaSkG2a
import Derived.Test.YtoodfjpigminkaaSkG3a
import Derived.Test.YtoodfjpigminkaaSkG4a
import Derived.Test.YtoodfjpigminkaaSkG5a
import Derived.Test.YtoodfjpigminkaaSkG7a
import Derived.Test.YtoodfjpigminkaaSkG8a
import Derived.Test.YtoodfjpigminkaaSkG9a
import Derived.Test.YtoodfjpigminkaaSkG10a
import Derived.Test.YtoodfjpigminkaaSkG11a
import Derived.Test.YtoodfjpigminkaaSkG12a
import Derived.Test.YtoodfjpigminkaaSkG19a
import Derived.Test.YtoodfjpigminkaaSkG20a
import Derived.Test.YtoodfjpigminkaaSkG24a
import Derived.Test.YtoodfjpigminkaaSkG27a
import Derived.Test.YtoodfjpigminkaaSkG28a
import Derived.Test.YtoodfjpigminkaaSkG36a
set_option linter.unusedVariables false
set_option linter.unusedSimpArgs false
set_option linter.unusedSectionVars false
namespace Go.SK
theorem raw_inst {b more rop re : Int} {rws : List Int} {i : InstL} (ho : i.Okay) (hm : b ≤ more) (h : rawF b i = ((rop, rws), re)) (he : re = 0) : instF more rop rws = (i, 0) ∧ rawF more i = ((rop, rws), 0) ∧ rws.length < 65535 ∧ 0 ≤ rop ∧ Wd rws := by
  obtain ⟨h1, _, _⟩ := rawF_len h
  have hf : faultF b i = 0 := by rw [← h1]; exact he
  rw [rawF_ok hf] at h
  injection h with h2 h3
  injection h2 with h4 h5
  subst h4; subst h5
  have := inst_forth hm ho hf
  exact ⟨this.1, rawF_ok this.2, (words_room hf).2, ho.op.1, wordsI_wd ho⟩
end Go.SK
namespace Go.SK
open Go Go.Proofs
open Go.RowKit
theorem R3law_CodeOne (p : InstP) (bound more : Int) (w : World) (hg : p.L.Okay) (ht : p.Tiny) (hA : (Res.rargs p).holds w) : Ret Try.prog 9 #[.agg #[.int .u16 p.op, .int .u32 p.ty, .int .u32 p.res, .slice p.ao p.args.length p.cap], .int .u32 bound, .int .u32 more] w (fun v w' => v = .bool true ∧ St w NoM [] [] w') := by
 refine Ret.enter (args := [.agg #[.int .u16 p.op, .int .u32 p.ty, .int .u32 p.res, .slice p.ao p.args.length p.cap], .int .u32 bound, .int .u32 more]) Try.func9 rfl rfl rfl ?_
 have hst : St w NoM [] [Res.rargs p] w := St.init_D hA
 clear hA
 obtain ⟨rop, rws, re, hR⟩ : ∃ rop rws re, rawF bound p.L = ((rop, rws), re) := ⟨_, _, _, rfl⟩
 have hal := ht.args
 have hsm : (p.args.map argRoom).sum ≤ 900000000 := by have := ht.sum; omega
 have htx : ∀ a ∈ p.args, a.s.length ≤ 100000000000 := fun a ha => by have := ht.txt a ha; omega
 have hop := hg.op.1
 have hwl := raw_short hR
 refine SR <| CN <| Op1.box (v := .agg #[.int .u16 _, .int .u32 _, .int .u32 _, .slice _ _ _]) hst rfl rfl fun w b3 hst => AB rfl <| NSR <| CN <| Op1.loadA (vs := [.int .u16 _, .int .u32 _, .int .u32 _, .slice _ _ _]) ty48 rfl rfl rfl (cells_of_obj (n := 4) (hst.objL (.head _)) _ rfl) <| CN (Op1.call1 (v1 := .agg #[.int .u16 _, .int .u32 _, .int .u32 _, .slice _ _ _]) ent31 rfl rfl ((R3md_CopyInst p _ (hst.hD _ (.head _)) (by omega)).mono fun v w hp => ?_))
 obtain ⟨bC, rfl, hp⟩ := hp
 replace hst : St _ _ (_ :: _) _ _ := hst.call0 hp
 clear hp
 refine MU rfl <| CN (Op1.call2 (v1 := .agg #[.int .u16 _, .int .u32 _, .int .u32 _, .slice _ _ _]) (v2 := .int .u32 _) ent32 rfl rfl rfl ((R3cd_Raw2 (p := (⟨p.op, p.ty, p.res, some ⟨bC, 0, none⟩, p.args.length, p.args⟩ : InstP)) hR hop _ (Res.rs_of_sl (hst.hL _ (.head _))) hsm htx).mono fun v w hp => ?_))
 obtain ⟨asR, csR, rfl, hp⟩ := hp
 replace hst : St _ _ (_ :: _) _ _ := hst.call0 hp
 clear hp
 refine CN <| Op1.move (v := .tuple #[.agg #[.int .u16 _, .slice _ _ _], .int .i64 _]) rfl <| CN <| Op1.extract (v := .agg #[.int .u16 _, .slice _ _ _]) rfl rfl <| CN <| Op1.extract (v := .int .i64 _) rfl rfl <| CN <| Op1.alloc hst ty45 fun w b7 hst => CN (SO (v := .agg #[.int .u16 _, .slice _ _ _]) hst ty45 rfl rfl (.here) fun w hst => ?_)
 refine AI rfl <| NL <| SQ <| SR <| MI rfl <| CN <| Op1.neq rfl rfl <| NL <| run_cond_dec rfl (fun g1 => ?_) (fun g1 => ?_)
 · skip
   have hz := (rawF_len hR).2.2 g1
   simp only [Prod.mk.injEq] at hz
   obtain ⟨hz1, hz2⟩ := hz
   have hz3 : rws.length = 0 := by rw [hz2]; rfl
   refine SR <| CN <| Op1.fieldAddr fld45_0 rfl <| CN <| Op1.load1 (v := .int .u16 _) ty42 rfl rfl (hst.cellL (.head _) rfl) <| CN <| Op1.eql rfl rfl <| MB rfl <| RunL.splitD (d := 25) rfl (fun g2 => ?_) (fun g2 => ?_)
   · skip
     refine TK (t := 25) rfl (congrArg Value.bool (decide_eq_true g2)) <| Op1.fieldAddr fld45_1 rfl <| TK (t := 25) rfl (congrArg Value.bool (decide_eq_true g2)) <| Op1.load1 (v := .slice _ _ _) ty43 rfl rfl (hst.cellL (.head _) rfl) <| TK (t := 25) rfl (congrArg Value.bool (decide_eq_true g2)) <| Op1.lenSl (rest := []) ty43 rfl <| TK (t := 25) rfl (congrArg Value.bool (decide_eq_true g2)) <| Op1.eql rfl rfl <| CN <| Op1.pickT (u := .bool _) (congrArg Value.bool (decide_eq_true g2)) rfl <| MB rfl <| RunL.splitD (d := 31) rfl (fun g3 => ?_) (fun g3 => ?_)
     · skip
       refine TK (t := 31) rfl (congrArg Value.bool (decide_eq_true g3)) (Op1.call0  ent19 rfl  ((R3law_awake _).mono fun v w hp => ?_))
       obtain ⟨rfl, hp⟩ := hp
       replace hst := hst.keepc hp
       clear hp
       refine CN <| Op1.pickT (u := .bool _) (congrArg Value.bool (decide_eq_true g3)) rfl <| AB rfl <| NL <| run_ret1 Try.func9 rfl (TP (v := .bool _) rfl) ?_
       exact ⟨rfl, hst.pure⟩
     exfalso
     first | exact g3 rfl | exact g3 hz1 | omega
   exfalso
   first | exact g2 rfl | exact g2 hz1 | omega
 have hre : re = 0 := Classical.not_not.1 g1
 refine run_skip <| SQ <| Run.cutW (L1 := []) [(3, .pointer (some ⟨_, _, none⟩)), (7, .pointer (some ⟨_, _, none⟩))] hst ⟨rfl, rfl, trivial⟩ (fun (q : Int) => [(2, .int .u32 q)]) (fun (q : Int) => []) (fun (q : Int) => bound ≤ q) (fun q f w hst hq => ?_) (fun cut4 => ?_)
 · skip
   obtain ⟨hIq, hRq, hlt, hr0, hwr⟩ := raw_inst hg hq hR hre
   refine SQ <| RunD.startT [(11, 12)] [] hst (bs := [0, 1, 0, 4, 12, 31, 0, 127, 255, 511, 511, 0, 3071, 8191]) (ds := [some 39, some 40, some 41, some 42, some 43, some 44, some 45, some 46, some 38, some 47, some 48, some 9, none, some 10]) ⟨by kernel_rfl, by kernel_rfl, by kernel_rfl⟩ (fun tab6 => ?_)
   refine RunD.op (det _) tab6 1 (fun f' L' w' hc => Op1.fieldAddr fld45_0 (hc.old (v := .pointer (some ⟨_, _, none⟩)) rfl rfl rfl) ⟨[], ⟨rfl, rfl⟩, hc.st⟩) <| RunD.op (det _) tab6 2 (fun f' L' w' hc => Op1.load1 (v := .int .u16 _) ty42 rfl (hc.det (j := 0) rfl rfl rfl rfl) (hc.st.cellL (List.mem_append_right _ (.head _)) rfl) ⟨[], ⟨rfl, rfl⟩, hc.st⟩) <| RunD.op (det _) tab6 3 (fun f' L' w' hc => Op1.fieldAddr fld45_1 (hc.old (v := .pointer (some ⟨_, _, none⟩)) rfl rfl rfl) ⟨[], ⟨rfl, rfl⟩, hc.st⟩) <| RunD.op (det _) tab6 4 (fun f' L' w' hc => Op1.load1 (v := .slice _ _ _) ty43 rfl (hc.det (j := 2) rfl rfl rfl rfl) (hc.st.cellL (List.mem_append_right _ (.head _)) rfl) ⟨[], ⟨rfl, rfl⟩, hc.st⟩) <| RunD.op (fun v rs => ∃ bC, v = .slice (some ⟨bC, 0, none⟩) rws.length rws.length ∧ rs = [Res.sl (some ⟨bC, 0, none⟩) rws.length rws.length 23 1 (rws.flatMap u32C)]) tab6 5 (fun f' L' w' hc => Op1.call1 (v1 := .slice _ _ _) ent25 rfl (hc.det (j := 3) rfl rfl rfl rfl) ((R3wd_CopyWords rws _ _ _ (Res.rs_of_sl (hc.st.hL _ (List.mem_append_right _ (.tail _ (.head _))))) (by omega)).mono fun v w hp => (by obtain ⟨bC, rfl, hp⟩ := hp; exact ⟨_, ⟨bC, rfl, rfl⟩, hc.st.call0 hp⟩))) <| RunD.opR (fun g v rs => (∀ b, g 43 = .slice (some ⟨b, 0, none⟩) rws.length rws.length → v = .agg #[.int .u16 rop, .slice (some ⟨b, 0, none⟩) rws.length rws.length]) ∧ rs = []) tab6 6 (fun f' L' w' hc => by obtain ⟨_, _, q1, _⟩ := hc.dep 4 43 rfl rfl; obtain ⟨b, h4, _⟩ := q1; exact Op1.buildStruct ty45 stf45 (.c (v := .int .u16 _) (hc.det (j := 1) rfl rfl rfl rfl) (h := (.c (v := .slice _ _ _) (evs h4 rfl) (h := .nil)))) ⟨[], fun g hg => ⟨fun b2 e => (by rw [hg 4 43 rfl rfl, h4] at e; cases e; rfl), rfl⟩, hc.st⟩) ?_
   refine RunD.op (det _) tab6 7 (fun f' L' w' hc => Op1.move (v := .int .u32 _) (hc.old (v := .int .u32 _) rfl rfl rfl) ⟨[], ⟨rfl, rfl⟩, hc.st⟩) <| RunD.op (fun v rs => ∃ ro rc, v = .tuple #[.agg #[.int .u16 p.op, .int .u32 p.ty, .int .u32 p.res, .slice ro p.args.length rc], .int .i64 0] ∧ rs = [Res.sl ro p.args.length rc 71 3 (p.args.flatMap argC)]) tab6 8 (fun f' L' w' hc => by obtain ⟨_, rs, ⟨b, h4, hrs⟩, _, hm⟩ := hc.dep 4 43 rfl rfl; subst hrs; obtain ⟨g5, _, q5, hg5, _⟩ := hc.dep 5 44 rfl rfl; have h5 := q5.1 b ((hg5 4 43 rfl rfl).trans h4); exact Op1.call2 (v1 := .agg #[.int .u16 _, .slice _ _ _]) (v2 := .int .u32 _) ent26 rfl (evs h5 rfl) (hc.det (j := 6) rfl rfl rfl rfl) ((R3cd_InstD hIq _ _ hr0 _ (Res.rs_of_sl (hc.st.hL _ (List.mem_append_left _ (hm rfl _ (.head _))))) (by omega)).mono fun v w hp => (by obtain ⟨ro, rc, rfl, hp⟩ := hp; exact ⟨_, ⟨ro, rc, rfl, rfl⟩, hc.st.call0 hp⟩))) <| RunD.opR (fun g v rs => v = g 46 ∧ rs = []) tab6 9 (fun f' L' w' hc => Op1.move (evs rfl rfl) ⟨[], fun g hg => ⟨(hg 7 46 rfl rfl).symm, rfl⟩, hc.st⟩) <| RunD.opR (fun g v rs => (∀ ro rc, g 46 = .tuple #[.agg #[.int .u16 p.op, .int .u32 p.ty, .int .u32 p.res, .slice ro p.args.length rc], .int .i64 0] → v = .agg #[.int .u16 p.op, .int .u32 p.ty, .int .u32 p.res, .slice ro p.args.length rc]) ∧ rs = []) tab6 10 (fun f' L' w' hc => by obtain ⟨_, _, q1, _⟩ := hc.dep 7 46 rfl rfl; obtain ⟨ro, rc, htc, _⟩ := q1; obtain ⟨gm, _, q2, hgm, _⟩ := hc.dep 8 38 rfl rfl; have htm : f' 38 = .tuple #[.agg #[.int .u16 p.op, .int .u32 p.ty, .int .u32 p.res, .slice ro p.args.length rc], .int .i64 0] := (by rw [q2.1, hgm 7 46 rfl rfl, htc]); exact Op1.extract (v := .agg #[.int .u16 p.op, .int .u32 p.ty, .int .u32 p.res, .slice ro p.args.length rc]) (evs htm rfl) rfl ⟨[], fun g hg => ⟨fun ro2 rc2 e => (by rw [hg 7 46 rfl rfl, htc] at e; cases e; rfl), rfl⟩, hc.st⟩) <| RunD.op (det (.int .i64 0)) tab6 11 (fun f' L' w' hc => by obtain ⟨_, _, q1, _⟩ := hc.dep 7 46 rfl rfl; obtain ⟨ro, rc, htc, _⟩ := q1; obtain ⟨gm, _, q2, hgm, _⟩ := hc.dep 8 38 rfl rfl; have htm : f' 38 = .tuple #[.agg #[.int .u16 p.op, .int .u32 p.ty, .int .u32 p.res, .slice ro p.args.length rc], .int .i64 0] := (by rw [q2.1, hgm 7 46 rfl rfl, htc]); exact Op1.extract (v := .int .i64 0) (evs htm rfl) rfl ⟨[], ⟨rfl, rfl⟩, hc.st⟩) <| RunD.op (fun v rs => ∃ b, v = .pointer (some ⟨b, 0, none⟩) ∧ rs = [Res.row b 48 [.int .u16 0, .int .u32 0, .int .u32 0, .slice none 0 0]]) tab6 12 (fun f' L' w' hc => Op1.alloc hc.st ty48 fun w b hst => ⟨[_], ⟨b, rfl, rfl⟩, hst⟩) <| RunD.over (fun g v rs => v = undef ∧ ∃ b, g 9 = .pointer (some ⟨b, 0, none⟩) ∧ ∀ ro rc, g 46 = .tuple #[.agg #[.int .u16 p.op, .int .u32 p.ty, .int .u32 p.res, .slice ro p.args.length rc], .int .i64 0] → rs = [Res.row b 48 [.int .u16 p.op, .int .u32 p.ty, .int .u32 p.res, .slice ro p.args.length rc]]) tab6 13 11 9 (.head _) rfl (fun f' L' L'' w' hc hq => by obtain ⟨_, rs, hz, _, hp⟩ := hq; obtain ⟨b, hb, hrs⟩ := hz; subst hrs; obtain ⟨_, _, q1, _⟩ := hc.dep 7 46 rfl rfl; obtain ⟨ro, rc, htc, _⟩ := q1; obtain ⟨gx, _, q3, hgx, _⟩ := hc.dep 9 47 rfl rfl; have htx := q3.1 ro rc ((hgx 7 46 rfl rfl).trans htc); have hst := hc.st.perm (hp.append_right _); exact Op1.store (v := .agg #[.int .u16 _, .int .u32 _, .int .u32 _, .slice _ _ _]) hst ty48 (evs hb rfl) (evs htx rfl) rfl rfl rfl .here (by repeat (first | exact Put.nil | apply Put.put | apply Put.skip)) fun w hst => ⟨[_], fun g hg => ⟨rfl, b, (hg 11 9 rfl rfl).trans hb, fun ro2 rc2 e => (by rw [hg 7 46 rfl rfl, htc] at e; cases e; rfl)⟩, hst⟩) ?_
   refine RunD.finT followsMixed tab6 hst rfl (fun f7 w R10 hs8 hd9 hr11 hst => ?_)
   obtain ⟨h39_, r0⟩ := hd9 0 39 rfl rfl
   obtain ⟨h40_, r1⟩ := hd9 1 40 rfl rfl
   obtain ⟨h41_, r2⟩ := hd9 2 41 rfl rfl
   obtain ⟨h42_, r3⟩ := hd9 3 42 rfl rfl
   obtain ⟨bW, h43_, r4⟩ := hd9 4 43 rfl rfl
   obtain ⟨h44_, r5⟩ := hd9 5 44 rfl rfl
   replace h44_ := h44_ bW ((DrawTab.mask tab6 _ (j := 5) (l := 4) (t := 43) rfl rfl).trans h43_)
   obtain ⟨h45_, r6⟩ := hd9 6 45 rfl rfl
   obtain ⟨ro, rc, h46_, r7⟩ := hd9 7 46 rfl rfl
   obtain ⟨h38_, r8⟩ := hd9 8 38 rfl rfl
   rw [DrawTab.mask tab6 _ (j := 8) (l := 7) (t := 46) rfl rfl, h46_] at h38_
   obtain ⟨h47_, r9⟩ := hd9 9 47 rfl rfl
   replace h47_ := h47_ ro rc ((DrawTab.mask tab6 _ (j := 9) (l := 7) (t := 46) rfl rfl).trans h46_)
   obtain ⟨h48_, r10⟩ := hd9 10 48 rfl rfl
   obtain ⟨_, _, b9, h9_, r12⟩ := hr11 12 rfl
   rw [DrawTab.mask tab6 _ (j := 12) (l := 11) (t := 9) rfl rfl] at h9_
   replace r12 := r12 ro rc ((DrawTab.mask tab6 _ (j := 12) (l := 7) (t := 46) rfl rfl).trans h46_)
   simp only [show List.range 13 = [0, 1, 2, 3, 4, 5, 6, 7, 8, 9, 10, 11, 12] from rfl, List.flatMap_cons, List.flatMap_nil, List.map_cons, List.map_nil, show finR [(11, 12)] R10 0 = R10 0 from rfl, show finR [(11, 12)] R10 1 = R10 1 from rfl, show finR [(11, 12)] R10 2 = R10 2 from rfl, show finR [(11, 12)] R10 3 = R10 3 from rfl, show finR [(11, 12)] R10 4 = R10 4 from rfl, show finR [(11, 12)] R10 5 = R10 5 from rfl, show finR [(11, 12)] R10 6 = R10 6 from rfl, show finR [(11, 12)] R10 7 = R10 7 from rfl, show finR [(11, 12)] R10 8 = R10 8 from rfl, show finR [(11, 12)] R10 9 = R10 9 from rfl, show finR [(11, 12)] R10 10 = R10 10 from rfl, show finR [(11, 12)] R10 11 = [] from rfl, show finR [(11, 12)] R10 12 = R10 12 from rfl, r0, r1, r2, r3, r4, r5, r6, r7, r8, r9, r10, r12, List.nil_append, List.append_nil, List.cons_append] at hst
   refine RunL.slots (sl := [(2, .int .u32 _), (3, .pointer (some ⟨_, _, none⟩)), (7, .pointer (some ⟨_, _, none⟩)), (9, .pointer (some ⟨_, _, none⟩)), (48, .int .i64 _)]) ⟨(hs8 2 rfl).trans rfl, (hs8 3 rfl).trans rfl, (hs8 7 rfl).trans rfl, h9_, h48_, trivial⟩ ?_
   clear hs8 hd9 hr11 tab6
   refine AI rfl <| NSR <| CN <| Op1.loadA (vs := [.int .u16 _, .int .u32 _, .int .u32 _, .slice _ _ _]) ty48 rfl rfl rfl (cells_of_obj (n := 4) (hst.objL (.tail _ (.tail _ (.tail _ (.tail _ (.tail _ (.tail _ (.head _)))))))) _ rfl) <| CN (Op1.call1 (v1 := .agg #[.int .u16 _, .int .u32 _, .int .u32 _, .slice _ _ _]) ent31 rfl rfl ((R3md_CopyInst p _ (hst.hD _ (.head _)) (by omega)).mono fun v w hp => ?_))
   obtain ⟨bC2, rfl, hp⟩ := hp
   replace hst : St _ _ (_ :: _) _ _ := hst.call0 hp
   clear hp
   refine MU rfl <| CN (Op1.call2 (v1 := .agg #[.int .u16 _, .int .u32 _, .int .u32 _, .slice _ _ _]) (v2 := .int .u32 _) ent32 rfl rfl rfl ((R3cd_Raw2 (p := (⟨p.op, p.ty, p.res, some ⟨bC2, 0, none⟩, p.args.length, p.args⟩ : InstP)) hRq hop _ (Res.rs_of_sl (hst.hL _ (.head _))) hsm htx).mono fun v w hp => ?_))
   obtain ⟨asX, csX, rfl, hp⟩ := hp
   replace hst : St _ _ (_ :: _) _ _ := hst.call0 hp
   clear hp
   refine CN <| Op1.move (v := .tuple #[.agg #[.int .u16 _, .slice _ _ _], .int .i64 _]) rfl <| CN <| Op1.extract (v := .agg #[.int .u16 _, .slice _ _ _]) rfl rfl <| CN <| Op1.extract (v := .int .i64 _) rfl rfl <| CN <| Op1.alloc hst ty45 fun w b11 hst => CN (SO (v := .agg #[.int .u16 _, .slice _ _ _]) hst ty45 rfl rfl (.here) fun w hst => ?_)
   refine AI rfl <| NL <| Run.forget [(3, .pointer (some ⟨_, _, none⟩)), (7, .pointer (some ⟨_, _, none⟩)), (9, .pointer (some ⟨_, _, none⟩)), (10, .int .i64 _), (11, .pointer (some ⟨_, _, none⟩)), (12, .int .i64 _)] ⟨rfl, rfl, rfl, rfl, rfl, rfl, trivial⟩ fun f => SR <| MI rfl <| CN <| Op1.eql rfl rfl <| MB rfl <| RunL.splitD (d := 58) rfl (fun g12 => ?_) (fun g12 => ?_)
   · skip
     refine TK (t := 58) rfl (congrArg Value.bool (decide_eq_true g12)) <| Op1.loadA (vs := [.int .u16 _, .int .u32 _, .int .u32 _, .slice _ _ _]) ty48 rfl rfl rfl (cells_of_obj (n := 4) (hst.objL (.tail _ (.tail _ (.tail _ (.tail _ (.tail _ (.head _))))))) _ rfl) <| TK (t := 58) rfl (congrArg Value.bool (decide_eq_true g12)) <| Op1.loadA (vs := [.int .u16 _, .int .u32 _, .int .u32 _, .slice _ _ _]) ty48 rfl rfl rfl (cells_of_obj (n := 4) (hst.objL (.tail _ (.tail _ (.tail _ (.tail _ (.tail _ (.tail _ (.tail _ (.tail _ (.tail _ (.head _))))))))))) _ rfl) <| TK (t := 58) rfl (congrArg Value.bool (decide_eq_true g12)) (Op1.call2 (v1 := .agg #[.int .u16 _, .int .u32 _, .int .u32 _, .slice _ _ _]) (v2 := .agg #[.int .u16 _, .int .u32 _, .int .u32 _, .slice _ _ _]) ent27 rfl rfl rfl ((R3md_Inst (⟨p.op, p.ty, p.res, ro, rc, p.args⟩ : InstP) p _ (Res.rs_of_sl (hst.hL _ (.tail _ (.tail _ (.tail _ (.tail _ (.head _))))))) (hst.hD _ (.head _)) (by (try dsimp only); omega)).mono fun v w hp => ?_))
     obtain ⟨he, hp⟩ := hp
     replace he := he.trans (congrArg Value.bool (decide_eq_true rfl))
     subst he
     replace hst := hst.keepc hp
     clear hp
     refine CN <| Op1.pickT (u := .bool _) (congrArg Value.bool (decide_eq_true g12)) rfl <| MB rfl <| TK (t := 63) rfl (congrArg Value.bool (rfl : true = _)) <| Op1.move (v := .int .i64 _) rfl <| TK (t := 63) rfl (congrArg Value.bool (rfl : true = _)) <| Op1.eql rfl rfl <| CN <| Op1.pickT (u := .bool _) (congrArg Value.bool (rfl : true = _)) rfl <| MB rfl <| RunL.splitD (d := 67) rfl (fun g13 => ?_) (fun g13 => ?_)
     · skip
       refine TK (t := 67) rfl (congrArg Value.bool (decide_eq_true g13)) <| Op1.fieldAddr fld45_0 rfl <| TK (t := 67) rfl (congrArg Value.bool (decide_eq_true g13)) <| Op1.load1 (v := .int .u16 _) ty42 rfl rfl (hst.cellL (.head _) rfl) <| TK (t := 67) rfl (congrArg Value.bool (decide_eq_true g13)) <| Op1.fieldAddr fld45_0 rfl <| TK (t := 67) rfl (congrArg Value.bool (decide_eq_true g13)) <| Op1.load1 (v := .int .u16 _) ty42 rfl rfl (hst.cellL (.tail _ (.tail _ (.tail _ (.tail _ (.tail _ (.tail _ (.head _))))))) rfl) <| TK (t := 67) rfl (congrArg Value.bool (decide_eq_true g13)) <| Op1.eql rfl rfl <| CN <| Op1.pickT (u := .bool _) (congrArg Value.bool (decide_eq_true g13)) rfl <| MB rfl <| RunL.splitD (d := 74) rfl (fun g14 => ?_) (fun g14 => ?_)
       · skip
         refine TK (t := 74) rfl (congrArg Value.bool (decide_eq_true g14)) <| Op1.fieldAddr fld45_1 rfl <| TK (t := 74) rfl (congrArg Value.bool (decide_eq_true g14)) <| Op1.load1 (v := .slice _ _ _) ty43 rfl rfl (hst.cellL (.head _) rfl) <| TK (t := 74) rfl (congrArg Value.bool (decide_eq_true g14)) <| Op1.fieldAddr fld45_1 rfl <| TK (t := 74) rfl (congrArg Value.bool (decide_eq_true g14)) <| Op1.load1 (v := .slice _ _ _) ty43 rfl rfl (hst.cellL (.tail _ (.tail _ (.tail _ (.tail _ (.tail _ (.tail _ (.head _))))))) rfl) <| TK (t := 74) rfl (congrArg Value.bool (decide_eq_true g14)) (Op1.call2 (v1 := .slice _ _ _) (v2 := .slice _ _ _) ent28 rfl rfl rfl ((R3wd_Words rws rws _ _ _ _ _ (Res.rs_of_sl (hst.hL _ (.tail _ (.head _)))) (Res.rs_of_sl (hst.hL _ (.tail _ (.tail _ (.tail _ (.tail _ (.tail _ (.tail _ (.tail _ (.head _)))))))))) (by omega)).mono fun v w hp => ?_))
         obtain ⟨he, hp⟩ := hp
         replace he := he.trans (congrArg Value.bool (decide_eq_true rfl))
         subst he
         replace hst := hst.keepc hp
         clear hp
         refine CN <| Op1.pickT (u := .bool _) (congrArg Value.bool (decide_eq_true g14)) rfl <| MB rfl <| TK (t := 81) rfl (congrArg Value.bool (rfl : true = _)) <| Op1.fieldAddr fld45_1 rfl <| TK (t := 81) rfl (congrArg Value.bool (rfl : true = _)) <| Op1.load1 (v := .slice _ _ _) ty43 rfl rfl (hst.cellL (.tail _ (.tail _ (.tail _ (.tail _ (.tail _ (.tail _ (.head _))))))) rfl) <| TK (t := 81) rfl (congrArg Value.bool (rfl : true = _)) <| Op1.lenSl (rest := []) ty43 rfl <| TK (t := 81) rfl (congrArg Value.bool (rfl : true = _)) <| Op1.lss rfl rfl <| CN <| Op1.pickT (u := .bool _) (congrArg Value.bool (rfl : true = _)) rfl <| MB rfl <| RunL.splitD (d := 87) rfl (fun g15 => ?_) (fun g15 => ?_)
         · skip
           refine TK (t := 87) rfl (congrArg Value.bool (decide_eq_true g15)) (Op1.call0  ent19 rfl  ((R3law_awake _).mono fun v w hp => ?_))
           obtain ⟨rfl, hp⟩ := hp
           replace hst := hst.keepc hp
           clear hp
           refine CN <| Op1.pickT (u := .bool _) (congrArg Value.bool (decide_eq_true g15)) rfl <| AB rfl <| NL <| run_ret1 Try.func9 rfl (TP (v := .bool _) rfl) ?_
           exact ⟨rfl, hst.pure⟩
         exfalso
         first | exact g15 rfl | exact g15 hz1 | omega
       exfalso
       first | exact g14 rfl | exact g14 hz1 | omega
     exfalso
     first | exact g13 rfl | exact g13 hz1 | omega
   exfalso
   first | exact g12 rfl | exact g12 hz1 | omega
 · skip
   refine SR <| MU rfl <| MU rfl <| CN <| Op1.lss rfl rfl <| NL <| run_cond_dec rfl (fun g16 => ?_) (fun g16 => ?_)
   · skip
     refine RG <| MU rfl <| AU rfl <| NL ?_
     exact cut4 (bound) _ w (hst) (Int.le_refl _) ⟨rfl, rfl, trivial⟩ ⟨rfl, trivial⟩
   refine run_skip ?_
   exact cut4 (more) _ w (hst) (by omega) ⟨rfl, rfl, trivial⟩ ⟨rfl, trivial⟩
end Go.SK
