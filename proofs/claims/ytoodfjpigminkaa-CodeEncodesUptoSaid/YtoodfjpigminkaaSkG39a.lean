/-
  Steps of functions, plain law, and walks of functions: what the laws rest on.
-/
import Derived.Test.YtoodfjpigminkaaSkG0d
import Derived.Test.YtoodfjpigminkaaSkG1a
import Derived.Test.YtoodfjpigminkaaSkG2a
import Derived.Test.YtoodfjpigminkaaSkG3a
import Derived.Test.YtoodfjpigminkaaSkG4a
import Derived.Test.YtoodfjpigminkaaSkG7a
import Derived.Test.YtoodfjpigminkaaSkG9a
import Derived.Test.YtoodfjpigminkaaSkG11a
import Derived.Test.YtoodfjpigminkaaSkG13a
import Derived.Test.YtoodfjpigminkaaSkG15a
import Derived.Test.YtoodfjpigminkaaSkG16a
import Derived.Test.YtoodfjpigminkaaSkG17a
import Derived.Test.YtoodfjpigminkaaSkG18a
import Derived.Test.YtoodfjpigminkaaSkG19a
import Derived.Test.YtoodfjpigminkaaSkG21a
import Derived.Test.YtoodfjpigminkaaSkG22a
import Derived.Test.YtoodfjpigminkaaSkG23a
import Derived.Test.YtoodfjpigminkaaSkG31a
import Derived.Test.YtoodfjpigminkaaSkG32a
import Derived.Test.YtoodfjpigminkaaSkG33a
set_option linter.unusedVariables false
set_option linter.unusedSimpArgs false
set_option linter.unusedSectionVars false
namespace Go.SK
open Go Go.Proofs
open Go.RowKit
theorem R3ref1_Join (l : List Int) (hw : Wd l) (ao : Option Addr) (cp : Nat) (w : World) (hA : (Res.rs ao l.length 1 (l.flatMap u32C)).holds w) (hl : l.length ≤ 30000000000000) : Ret Try.prog 43 #[.slice ao l.length cp] w (fun v w' => ∃ ro rc, v = .slice ro (joinW l).length rc ∧ St w NoM [Res.sl ro (joinW l).length rc 5 1 ((joinW l).flatMap byC)] [] w') := by
 refine Ret.enter (args := [.slice ao l.length cp]) Try.func43 rfl rfl rfl ?_
 have hst : St w NoM [] [Res.rs ao l.length 1 (l.flatMap u32C)] w := St.init_D hA
 clear hA
 refine SR <| AL rfl <| NSR <| ML rfl <| CN (Op1.lenSl (rest := []) ty43 rfl ?_)
 first | refine CN (Op1.mulN rfl rfl rfl (wrap_i64 (by omega) (by omega)) ?_) | refine CN (Op1.mulB rfl rfl (by omega) (by omega) (by omega) (by omega) (fun hm1 hm2 => ?_))
 refine CN (Op1.makeSlV (k := 4 * l.length) hst ty22 ty5 rfl rfl rfl (by decide) (by omega) (by omega) fun w bC hst => ?_)
 rw [cpG_zero (g := byC) (d := (0 : UInt8)) (ez := [.int .u8 0]) rfl (joinW l)] at hst
 have hWl := joinW_len l
 refine AL rfl <| NL <| SQ <| SR <| AI rfl <| NL <| run_block <| run_loop <| Run.indW [(0, .slice _ _ _), (3, .slice _ _ _)] ⟨rfl, rfl, trivial⟩ (fun (i : Nat) => [(4, .int .i64 (i : Int))]) (fun (i : Nat) => [Res.sl (some ⟨bC, 0, none⟩) (4 * l.length) (4 * l.length) 5 1 ((cpG (0 : UInt8) (joinW l) (4 * l.length) i).flatMap byC)]) (fun (i : Nat) => i ≤ 4 * l.length) (fun (i : Nat) => 4 * l.length - i) (0) hst (Nat.zero_le _) ⟨rfl, trivial⟩ ?_
 intro i f w hst hJ ih3
 refine SQ <| SR <| MI rfl <| ML rfl <| CN <| Op1.lenSl (rest := []) ty22 rfl <| CN <| Op1.lss rfl rfl <| NL <| run_cond_dec rfl (fun g4 => ?_) (fun g4 => ?_)
 · skip
   refine run_skip <| SQ <| run_block <| RG <| ML rfl <| MI rfl <| ML rfl <| MI rfl <| CN <| Op1.call2 (v1 := .slice _ _ _) (v2 := .int .i64 _) ent73 rfl rfl rfl <| Ret.det (R3ref1_Byte _ hw i (by omega) _ _ _ (hst.hD _ (.head _)) (by omega)) hst fun w hst => CN <| Op1.indexSl ty22 ty5 rfl rfl (by omega) (by omega) <| CN <| Op1.storeSl (v := .int .u8 _) hst ty5 rfl rfl rfl rfl rfl (.here) (by simp only [List.length_cons, List.length_nil]; omega) fun w hst => NL <| run_inBlock <| RG <| MI rfl ?_
   refine CN <| Op1.addN rfl rfl rfl (wrap_i64 (by omega) (by omega)) <| AI rfl <| NL <| run_inLoop ?_
   exact ih3 (i + 1) _ w (by omega) (by (try dsimp only); rw [← cpG_stepN (g := byC) (es := 1) byC_len (i := i) (x := byC (byteAt l i)) hWl.symm (by omega) (by rw [joinW_get (by omega)])]; exact hst) (by omega) ⟨rfl, rfl, trivial⟩ ⟨(congrArg (Value.int .i64) (by omega)), trivial⟩
 obtain rfl : i = 4 * l.length := by omega
 rw [cpG_allN _ hWl.symm] at hst
 refine run_exit (id := 0) rfl <| SR <| ML rfl <| AL rfl <| NL <| run_ret1 Try.func43 rfl (TP (v := .slice _ _ _) rfl) ?_
 replace hst := hst.pick (.cons (.here) .nil)
 rw [joinW_len]
 exact ⟨_, _, rfl, hst.noD⟩
end Go.SK
namespace Go.SK
open Go Go.Proofs
open Go.RowKit
theorem R3ref2_Fault (l : List RawP) (ao : Option Addr) (cp : Nat) (w : World) (hA : (Res.rs ao l.length 2 (l.flatMap rawC)).holds w) (hl : l.length ≤ 35184372088832) (hla : ∀ r ∈ l, r.ws.length ≤ 35184372088832) : Ret Try.prog 100 #[.slice ao l.length cp] w (fun v w' => v = .agg #[.int .i64 (cntF 5 0 (l.map rawN)).2.1, .int .i64 (cntF 5 0 (l.map rawN)).2.2] ∧ St w NoM [] [] w') := by
 refine Ret.enter (args := [.slice ao l.length cp]) Try.func100 rfl rfl rfl ?_
 have hst : St w NoM [] [Res.rs ao l.length 2 (l.flatMap rawC)] w := St.init_D hA
 clear hA
 refine SR <| CN <| Op1.alloc hst ty29 fun w b2 hst => NSR <| AI rfl <| NL <| SQ <| SR <| AI rfl <| NL <| run_block <| run_loop ?_
 refine Run.indW [(0, .slice _ _ _), (2, .pointer (some ⟨_, _, none⟩))] ⟨rfl, rfl, trivial⟩ (fun (q : Nat × Nat) => [(3, .int .i64 (q.2 : Int)), (4, .int .i64 (q.1 : Int))]) (fun (q : Nat × Nat) => []) (fun (q : Nat × Nat) => q.1 ≤ l.length ∧ q.2 ≤ 1048576 ∧ cntF 5 0 (l.map rawN) = cntF q.2 q.1 ((l.map rawN).drop q.1)) (fun (q : Nat × Nat) => l.length - q.1) ((0, 5)) hst ⟨Nat.zero_le _, by decide, rfl⟩ ⟨rfl, rfl, trivial⟩ ?_
 intro ⟨i, n⟩ f w hst hJ ih1
 replace hst : St _ _ ([] ++ [_]) _ _ := hst
 replace hJ : i ≤ l.length ∧ n ≤ 1048576 ∧ cntF 5 0 (l.map rawN) = cntF n i ((l.map rawN).drop i) := hJ
 refine Run.slots (sl := [(3, .int .i64 (n : Int)), (4, .int .i64 (i : Int))]) ⟨rfl, rfl, trivial⟩ <| SQ <| SR <| MI rfl <| ML rfl <| CN <| Op1.lenSl (rest := []) ty67 rfl <| CN <| Op1.lss rfl rfl <| NL <| run_cond_dec rfl (fun g2 => ?_) (fun g2 => ?_)
 · skip
   have hlen := hla _ (getD_memD (d := zeroR) (i := i) (by omega))
   have hidx : (l.getD ((i : Int).toNat) zeroR).ws.length = (l.getD i zeroR).ws.length := rfl
   refine run_skip <| SQ <| run_block <| SQ <| SR <| ML rfl <| MI rfl <| CN <| Op1.indexRs ty67 ty45 (hst.hD _ (.head _)) rfl rfl (by omega) (by omega) <| CN <| Op1.fieldAddr fld45_1 rfl <| CN <| Op1.load1 (v := .slice _ _ _) ty43 rfl rfl (Res.rs2_cellF (hst.hD _ (.head _)) (flat_cell (g := rawC) (d := zeroR) rawC_len rfl (by omega))) <| CN <| Op1.lenSl (rest := []) ty43 rfl <| CN <| Op1.geq rfl rfl <| NL <| run_cond_dec rfl (fun g3 => ?_) (fun g3 => ?_)
   · skip
     refine SR <| MI rfl <| CN (Op1.buildStruct ty29 stf29 (.c (v := .int .i64 _) rfl (h := (.c (v := .int .i64 _) rfl (h := .nil)))) ?_)
     refine CN (SO (v := .agg #[.int .i64 _, .int .i64 _]) hst ty29 rfl rfl (.here) fun w hst => ?_)
     refine NL <| run_ret1 Try.func100 rfl (RV.cellA (vs := [.int .i64 _, .int .i64 _]) rfl ty29 rfl rfl (cells_of_obj (n := 2) (hst.objL (.head _)) _ rfl)) ?_
     rw [hJ.2.2, cnt_count (by omega) (by omega)]
     exact ⟨rfl, hst.pure⟩
   refine run_skip <| SR <| MI rfl <| CN <| Op1.addN rfl rfl rfl (wrap_i64 (by omega) (by omega)) <| ML rfl <| MI rfl <| CN <| Op1.indexRs ty67 ty45 (hst.hD _ (.head _)) rfl rfl (by omega) (by omega) <| CN <| Op1.fieldAddr fld45_1 rfl <| CN <| Op1.load1 (v := .slice _ _ _) ty43 rfl rfl (Res.rs2_cellF (hst.hD _ (.head _)) (flat_cell (g := rawC) (d := zeroR) rawC_len rfl (by omega))) <| CN <| Op1.lenSl (rest := []) ty43 rfl <| CN <| Op1.addN rfl rfl rfl (wrap_i64 (by omega) (by omega)) <| AI rfl <| NL <| Run.forget [(0, .slice _ _ _), (2, .pointer (some ⟨_, _, none⟩)), (3, .int .i64 _), (4, .int .i64 _)] ⟨rfl, rfl, rfl, rfl, trivial⟩ (fun f => ?_)
   refine SR <| MI rfl <| CN <| Op1.gtr rfl rfl <| NL <| run_cond_dec rfl (fun g4 => ?_) (fun g4 => ?_)
   · skip
     refine SR <| MI rfl <| CN (Op1.buildStruct ty29 stf29 (.c (v := .int .i64 _) rfl (h := (.c (v := .int .i64 _) rfl (h := .nil)))) ?_)
     refine CN (SO (v := .agg #[.int .i64 _, .int .i64 _]) hst ty29 rfl rfl (.here) fun w hst => ?_)
     refine NL <| run_ret1 Try.func100 rfl (RV.cellA (vs := [.int .i64 _, .int .i64 _]) rfl ty29 rfl rfl (cells_of_obj (n := 2) (hst.objL (.head _)) _ rfl)) ?_
     rw [hJ.2.2, cnt_large (by omega) (by omega) (by omega)]
     exact ⟨rfl, hst.pure⟩
   refine run_skip <| run_inBlock <| RG <| MI rfl <| CN <| Op1.addN rfl rfl rfl (wrap_i64 (by omega) (by omega)) <| AI rfl <| NL <| run_inLoop ?_
   exact ih1 ((i + 1, n + 1 + (l.getD i zeroR).ws.length)) _ w (by (try dsimp only); omega) hst (⟨by (try dsimp only); omega, by (try dsimp only); omega, by (try dsimp only); rw [hJ.2.2, cnt_next (by omega) (by omega) (by omega)]⟩) ⟨rfl, rfl, trivial⟩ ⟨(congrArg (Value.int .i64) (by (try dsimp only); omega)), (congrArg (Value.int .i64) (by (try dsimp only); omega)), trivial⟩
 obtain rfl : i = l.length := by omega
 refine run_exit (id := 0) rfl <| SR <| CN (Op1.buildStruct ty29 stf29 .nil ?_)
 refine CN (SO (v := .agg #[.int .i64 _, .int .i64 _]) hst ty29 rfl rfl (.here) fun w hst => ?_)
 refine NL <| run_ret1 Try.func100 rfl (RV.cellA (vs := [.int .i64 _, .int .i64 _]) rfl ty29 rfl rfl (cells_of_obj (n := 2) (hst.objL (.head _)) _ rfl)) ?_
 rw [hJ.2.2, cnt_end]
 exact ⟨rfl, hst.pure⟩
end Go.SK
namespace Go.SK
open Go Go.Proofs
theorem ent100 : Enters Try.prog 100 := ⟨Try.f100, _, Try.func100, by kernel_rfl, rfl⟩
end Go.SK
namespace Go.SK
open Go Go.Proofs
open Go.RowKit
theorem R3ref2_Fault2 (l : List RawP) (ao : Option Addr) (cp : Nat) (w : World) {ce ca : Int} (h2 : (cntF 5 0 (l.map rawN)).2.1 = ce) (h3 : (cntF 5 0 (l.map rawN)).2.2 = ca) (hA : (Res.rs ao l.length 2 (l.flatMap rawC)).holds w) (hl : l.length ≤ 35184372088832) (hla : ∀ r ∈ l, r.ws.length ≤ 35184372088832) : Ret Try.prog 100 #[.slice ao l.length cp] w (fun v w' => v = .agg #[.int .i64 ce, .int .i64 ca] ∧ St w NoM [] [] w') := by
 subst h2; subst h3; exact R3ref2_Fault l ao cp w hA hl hla
theorem R3ref2_Write (gn bd : Int) (l : List RawP) (ao : Option Addr) (cp : Nat) (w : World) (hA : (Res.rraws ao l).holds w) (hl : l.length ≤ 35184372088832) (hla : ∀ r ∈ l, r.ws.length ≤ 35184372088832) (hop : ∀ r ∈ l, 0 ≤ r.op ∧ r.op < 65536) : Ret Try.prog 74 #[.agg #[.int .u32 gn, .int .u32 bd], .slice ao l.length cp] w (fun v w' => ∃ ro rc, v = .tuple #[.slice ro (writeF gn bd (l.map RawP.L)).1.length rc, .agg #[.int .i64 (writeF gn bd (l.map RawP.L)).2.1, .int .i64 (writeF gn bd (l.map RawP.L)).2.2]] ∧ St w NoM [Res.sl ro (writeF gn bd (l.map RawP.L)).1.length rc 23 1 ((writeF gn bd (l.map RawP.L)).1.flatMap u32C)] [] w') := by
 refine Ret.enter (args := [.agg #[.int .u32 gn, .int .u32 bd], .slice ao l.length cp]) Try.func74 rfl rfl rfl ?_
 have hst : St w NoM [] [Res.rraws ao l] w := St.init_D hA
 clear hA
 obtain ⟨ce, hce⟩ : ∃ ce, (cntF 5 0 (l.map rawN)).2.1 = ce := ⟨_, rfl⟩
 obtain ⟨ca, hca⟩ : ∃ ca, (cntF 5 0 (l.map rawN)).2.2 = ca := ⟨_, rfl⟩
 refine SR <| CN <| Op1.box (v := .agg #[.int .u32 _, .int .u32 _]) hst rfl rfl fun w b2 hst => AL rfl <| CN <| Op1.alloc hst ty29 fun w b5 hst => NL <| SQ <| SR <| CN <| Op1.fieldAddr fld66_1 rfl <| CN <| Op1.load1 (v := .int .u32 _) ty23 rfl rfl (hst.cellL (.tail _ (.head _)) rfl) <| CN <| Op1.eql rfl rfl <| MB rfl <| RunL.splitD (d := 13) rfl (fun g1 => ?_) (fun g1 => ?_)
 · skip
   refine OM (t := 13) rfl (congrArg Value.bool (decide_eq_true g1)) rfl <| OM (t := 13) rfl (congrArg Value.bool (decide_eq_true g1)) rfl <| OM (t := 13) rfl (congrArg Value.bool (decide_eq_true g1)) rfl <| CN <| Op1.pickT (u := .bool _) (congrArg Value.bool (decide_eq_true g1)) rfl <| NL <| run_cond_true (congrArg Value.bool (rfl : true = _)) <| SR <| CN (Op1.buildStruct ty29 stf29 (.c (v := .int .i64 _) rfl (h := .nil)) ?_)
   refine AL rfl <| CN (SO (v := .agg #[.int .i64 _, .int .i64 _]) hst ty29 rfl rfl (.here) fun w hst => ?_)
   refine NL <| run_ret2 Try.func74 rfl (TP (v := .slice _ _ _) rfl) (RV.cellA (vs := [.int .i64 _, .int .i64 _]) rfl ty29 rfl rfl (cells_of_obj (n := 2) (hst.objL (.head _)) _ rfl)) ?_
   replace hst := hst.pick .nil
   have hr := writeF_bound (gn := gn) (l := l.map RawP.L) (bd := bd) (by omega)
   refine ⟨none, 0, ?_, ?_⟩
   · rw [hr] <;> rfl
   · rw [hr]; exact (hst.pushNil 23 1).noD
 refine TK (t := 13) rfl (congrArg Value.bool (decide_eq_false g1)) <| Op1.fieldAddr fld66_1 rfl <| TK (t := 13) rfl (congrArg Value.bool (decide_eq_false g1)) <| Op1.load1 (v := .int .u32 _) ty23 rfl rfl (hst.cellL (.tail _ (.head _)) rfl) <| TK (t := 13) rfl (congrArg Value.bool (decide_eq_false g1)) <| Op1.gtr rfl rfl <| CN <| Op1.pickF (u := .bool _) (congrArg Value.bool (decide_eq_false g1)) rfl <| NL <| run_cond_dec rfl (fun g2 => ?_) (fun g2 => ?_)
 · skip
   refine SR <| CN (Op1.buildStruct ty29 stf29 (.c (v := .int .i64 _) rfl (h := .nil)) ?_)
   refine AL rfl <| CN (SO (v := .agg #[.int .i64 _, .int .i64 _]) hst ty29 rfl rfl (.here) fun w hst => ?_)
   refine NL <| run_ret2 Try.func74 rfl (TP (v := .slice _ _ _) rfl) (RV.cellA (vs := [.int .i64 _, .int .i64 _]) rfl ty29 rfl rfl (cells_of_obj (n := 2) (hst.objL (.head _)) _ rfl)) ?_
   replace hst := hst.pick .nil
   have hr := writeF_bound (gn := gn) (l := l.map RawP.L) (bd := bd) (by omega)
   refine ⟨none, 0, ?_, ?_⟩
   · rw [hr] <;> rfl
   · rw [hr]; exact (hst.pushNil 23 1).noD
 refine run_skip <| SR <| ML rfl <| CN <| Op1.call1 (v1 := .slice _ _ _) ent100 rfl rfl <| Ret.det (R3ref2_Fault2 l ao cp _ hce hca (Res.rraws_raws (hst.hD _ (.head _))) hl hla) hst fun w hst => CN <| Op1.alloc hst ty29 fun w b6 hst => CN (SO (v := .agg #[.int .i64 _, .int .i64 _]) hst ty29 rfl rfl (.here) fun w hst => ?_)
 refine NL <| SQ <| SR <| CN <| Op1.fieldAddr fld29_0 rfl <| CN <| Op1.load1 (v := .int .i64 _) ty27 rfl rfl (hst.cellL (.head _) rfl) <| CN <| Op1.neq rfl rfl <| NL <| run_cond_dec rfl (fun g3 => ?_) (fun g3 => ?_)
 · skip
   refine SQ <| RunD.start [] hst (bs := [0, 0, 3]) (ds := [some 24, some 4, none]) ⟨by kernel_rfl, by kernel_rfl, by kernel_rfl⟩ (fun tab4 => ?_)
   refine RunD.op (det _) tab4 1 (fun f' L' w' hc => Op1.loadA (vs := [.int .i64 _, .int .i64 _]) ty29 rfl (hc.old (v := .pointer (some ⟨_, _, none⟩)) rfl rfl rfl) rfl (cells_of_obj (n := 2) (hc.st.objL (List.mem_append_right _ (.head _))) _ rfl) ⟨[], ⟨rfl, rfl⟩, hc.st⟩) <| RunD.op (det _) tab4 2 (fun f' L' w' hc => Op1.assign (v := .slice _ _ _) rfl ⟨[], ⟨rfl, rfl⟩, hc.st⟩) <| RunD.fin followsMixed tab4 hst rfl (fun f5 w R8 hs6 hd7 hr9 hst => ?_)
   obtain ⟨h24_, r0⟩ := hd7 0 24 rfl rfl
   obtain ⟨h4_, r1⟩ := hd7 1 4 rfl rfl
   simp only [show List.range 2 = [0, 1] from rfl, List.flatMap_cons, List.flatMap_nil, List.map_cons, List.map_nil, r0, r1, List.nil_append, List.append_nil, List.cons_append] at hst
   refine RunL.slots (sl := [(4, .slice _ _ _), (5, .pointer (some ⟨_, _, none⟩)), (24, .agg #[.int .i64 _, .int .i64 _])]) ⟨h4_, (hs6 5 rfl).trans rfl, h24_, trivial⟩ ?_
   clear hs6 hd7 hr9 tab4
   refine CN (SO (v := .agg #[.int .i64 _, .int .i64 _]) hst ty29 rfl rfl (.there (.here)) fun w hst => ?_)
   refine NL <| run_ret2 Try.func74 rfl (TP (v := .slice _ _ _) rfl) (RV.cellA (vs := [.int .i64 _, .int .i64 _]) rfl ty29 rfl rfl (cells_of_obj (n := 2) (hst.objL (.tail _ (.head _))) _ rfl)) ?_
   replace hst := hst.pick .nil
   have hr := writeF_bad (gn := gn) (l := l.map RawP.L) (bd := bd) (by omega) (by omega) (by rw [← lens_eq, hce]; exact g3)
   rw [← lens_eq, show (cntF 5 0 (l.map rawN)).2 = (ce, ca) by rw [← hce, ← hca]] at hr
   refine ⟨none, 0, ?_, ?_⟩
   · rw [hr] <;> rfl
   · rw [hr]; exact (hst.pushNil 23 1).noD
 have hce2 : ce = 0 := by omega
 have hgd := cnt_good (ks := l.map rawN) (n := 5) (i := 0) (by decide) (hce.trans hce2)
 have htot := hgd.2.2
 have hWl : (writeW gn bd (l.map RawP.L)).length ≤ 1048576 := by rw [writeW_len, ← lens_eq]; exact htot
 refine run_skip <| SR <| AL rfl <| NSR <| ML rfl <| CN <| Op1.fieldAddr fld66_0 rfl <| CN <| Op1.load1 (v := .int .u32 _) ty23 rfl rfl (hst.cellL (.tail _ (.tail _ (.head _))) rfl) <| CN <| Op1.fieldAddr fld66_1 rfl <| CN <| Op1.load1 (v := .int .u32 _) ty23 rfl rfl (hst.cellL (.tail _ (.tail _ (.head _))) rfl) <| CN (Op1.buildSl (z0 := [.int .u32 0, .int .u32 0, .int .u32 0, .int .u32 0, .int .u32 0]) hst ty43 ty23 rfl rfl (by kernel_rfl) (.c (v := .int .u32 _) rfl (h := (.c (v := .int .u32 _) rfl (h := (.c (v := .int .u32 _) rfl (h := (.c (v := .int .u32 _) rfl (h := (.c (v := .int .u32 _) rfl (h := .nil)))))))))) fun w b30 hst => ?_)
 replace hst := hst.pushNil 23 1
 refine CN (Op1.append (news := [.int .u32 _, .int .u32 _, .int .u32 _, .int .u32 _, .int .u32 _]) hst ty43 ty23 rfl rfl (.here) rfl rfl rfl (cells_of_obj (n := 5) (hst.objL (.tail _ (.head _))) _ rfl) rfl rfl (by omega) fun w ao10 cp11 hst => ?_)
 replace hst := hst.drop (.there (.here))
 refine AL rfl <| NL <| Run.forget [(1, .slice _ _ _), (5, .pointer (some ⟨_, _, none⟩)), (7, .slice _ _ _)] ⟨rfl, rfl, rfl, trivial⟩ fun f => SQ <| SR <| AI rfl <| NL <| run_block <| run_loop <| Run.indW [(1, .slice _ _ _), (5, .pointer (some ⟨_, _, none⟩))] ⟨rfl, rfl, trivial⟩ (fun (q : Nat × Option Addr × Nat) => [(7, .slice q.2.1 (writeW gn bd ((l.take q.1).map RawP.L)).length q.2.2), (8, .int .i64 (q.1 : Int))]) (fun (q : Nat × Option Addr × Nat) => [Res.sl q.2.1 (writeW gn bd ((l.take q.1).map RawP.L)).length q.2.2 23 1 ((writeW gn bd ((l.take q.1).map RawP.L)).flatMap u32C)]) (fun (q : Nat × Option Addr × Nat) => q.1 ≤ l.length) (fun (q : Nat × Option Addr × Nat) => l.length - q.1) ((0, _, _)) hst (Nat.zero_le _) ⟨rfl, rfl, trivial⟩ ?_
 intro ⟨i, aq, cq⟩ f w hst hJ ih12
 replace hst : St _ _ ([Res.sl aq (writeW gn bd ((l.take i).map RawP.L)).length cq 23 1 ((writeW gn bd ((l.take i).map RawP.L)).flatMap u32C)] ++ [_, _, _]) _ _ := hst
 replace hJ : i ≤ l.length := hJ
 refine Run.slots (sl := [(7, .slice aq (writeW gn bd ((l.take i).map RawP.L)).length cq), (8, .int .i64 (i : Int))]) ⟨rfl, rfl, trivial⟩ <| SQ <| SR <| MI rfl <| ML rfl <| CN <| Op1.lenSl (rest := []) ty67 rfl <| CN <| Op1.lss rfl rfl <| NL <| run_cond_dec rfl (fun g13 => ?_) (fun g13 => ?_)
 · skip
   have hWi := writeW_le gn bd l i
   have hmem : (l.getD i zeroR) ∈ l := getD_memD (by omega)
   have hk : (l.getD i zeroR).ws.length < 65535 := hgd.2.1 _ (List.mem_map_of_mem hmem)
   have ho := hop _ hmem
   have hidx : l.getD ((i : Int)).toNat zeroR = (l.getD i zeroR) := rfl
   have hidx2 : (l.getD ((i : Int)).toNat zeroR).ws.length = (l.getD i zeroR).ws.length := rfl
   have hidx3 : (l.getD ((i : Int)).toNat zeroR).op = (l.getD i zeroR).op := rfl
   refine run_skip <| SQ <| run_block <| SQ <| RunD.start [] hst (bs := [0, 0, 0, 6, 14, 30, 62, 126, 254, 510, 0, 0, 3072, 7168, 15360, 31744, 65534, 131070, 262143, 524287]) (ds := [some 38, some 39, some 40, some 41, some 42, some 43, some 44, some 45, some 46, some 47, some 48, some 49, some 50, some 51, some 52, some 53, some 54, some 55, some 56, some 7]) ⟨by kernel_rfl, by kernel_rfl, by kernel_rfl⟩ (fun tab14 => ?_)
   refine RunD.op (det _) tab14 1 (fun f' L' w' hc => Op1.move (v := .slice _ _ _) (hc.old (v := .slice _ _ _) rfl rfl rfl) ⟨[], ⟨rfl, rfl⟩, hc.st⟩) <| RunD.op (det _) tab14 2 (fun f' L' w' hc => Op1.move (v := .slice _ _ _) (hc.old (v := .slice _ _ _) rfl rfl rfl) ⟨[], ⟨rfl, rfl⟩, hc.st⟩) <| RunD.op (det _) tab14 3 (fun f' L' w' hc => Op1.move (v := .int .i64 _) (hc.old (v := .int .i64 _) rfl rfl rfl) ⟨[], ⟨rfl, rfl⟩, hc.st⟩) <| RunD.op (det _) tab14 4 (fun f' L' w' hc => Op1.indexRs ty67 ty45 (Res.rraws_raws (hc.st.hD _ (.head _))) (hc.det (j := 1) rfl rfl rfl rfl) (hc.det (j := 2) rfl rfl rfl rfl) (by omega) (by omega) ⟨[], ⟨rfl, rfl⟩, hc.st⟩) <| RunD.op (det _) tab14 5 (fun f' L' w' hc => Op1.fieldAddr fld45_1 (hc.det (j := 3) rfl rfl rfl rfl) ⟨[], ⟨rfl, rfl⟩, hc.st⟩) <| RunD.op (det _) tab14 6 (fun f' L' w' hc => Op1.load1 (v := .slice _ _ _) ty43 rfl (hc.det (j := 4) rfl rfl rfl rfl) (Res.rs2_cellF (Res.rraws_raws (hc.st.hD _ (.head _))) (flat_cell (g := rawC) (d := zeroR) rawC_len rfl (by omega))) ⟨[], ⟨rfl, rfl⟩, hc.st⟩) <| RunD.op (det _) tab14 7 (fun f' L' w' hc => Op1.lenSl (rest := []) ty43 (hc.det (j := 5) rfl rfl rfl rfl) ⟨[], ⟨rfl, rfl⟩, hc.st⟩) <| RunD.op (det _) tab14 8 (fun f' L' w' hc => Op1.addN (hc.det (j := 6) rfl rfl rfl rfl) rfl rfl (wrap_i64 (by omega) (by omega)) ⟨[], ⟨rfl, rfl⟩, hc.st⟩) <| RunD.op (det _) tab14 9 (fun f' L' w' hc => Op1.convW (c := (((l.getD i zeroR).ws.length : Int) + 1)) ty3 ty23 (hc.det (j := 7) rfl rfl rfl rfl) (wrap_u32 (by omega) (by omega)) ⟨[], ⟨rfl, rfl⟩, hc.st⟩) <| RunD.op (det _) tab14 10 (fun f' L' w' hc => Op1.mulN (hc.det (j := 8) rfl rfl rfl rfl) rfl rfl (wrap_u32 (by omega) (by omega)) ⟨[], ⟨rfl, rfl⟩, hc.st⟩) <| RunD.op (det _) tab14 11 (fun f' L' w' hc => Op1.move (v := .slice _ _ _) (hc.old (v := .slice _ _ _) rfl rfl rfl) ⟨[], ⟨rfl, rfl⟩, hc.st⟩) <| RunD.op (det _) tab14 12 (fun f' L' w' hc => Op1.move (v := .int .i64 _) (hc.old (v := .int .i64 _) rfl rfl rfl) ⟨[], ⟨rfl, rfl⟩, hc.st⟩) <| RunD.op (det _) tab14 13 (fun f' L' w' hc => Op1.indexRs ty67 ty45 (Res.rraws_raws (hc.st.hD _ (.head _))) (hc.det (j := 10) rfl rfl rfl rfl) (hc.det (j := 11) rfl rfl rfl rfl) (by omega) (by omega) ⟨[], ⟨rfl, rfl⟩, hc.st⟩) <| RunD.op (det _) tab14 14 (fun f' L' w' hc => Op1.fieldAddr fld45_0 (hc.det (j := 12) rfl rfl rfl rfl) ⟨[], ⟨rfl, rfl⟩, hc.st⟩) <| RunD.op (det _) tab14 15 (fun f' L' w' hc => Op1.load1 (v := .int .u16 _) ty42 rfl (hc.det (j := 13) rfl rfl rfl rfl) (Res.rs2_cellF (Res.rraws_raws (hc.st.hD _ (.head _))) (flat_cell (g := rawC) (d := zeroR) rawC_len rfl (by omega))) ⟨[], ⟨rfl, rfl⟩, hc.st⟩) ?_
   refine RunD.op (det _) tab14 16 (fun f' L' w' hc => Op1.convW (c := (l.getD i zeroR).op) ty42 ty23 (hc.det (j := 14) rfl rfl rfl rfl) (wrap_u32 (by omega) (by omega)) ⟨[], ⟨rfl, rfl⟩, hc.st⟩) <| RunD.op (det _) tab14 17 (fun f' L' w' hc => Op1.addN (hc.det (j := 9) rfl rfl rfl rfl) (hc.det (j := 15) rfl rfl rfl rfl) rfl (wrap_u32 (by omega) (by omega)) ⟨[], ⟨rfl, rfl⟩, hc.st⟩) <| RunD.op (fun v rs => ∃ b, v = .slice (some ⟨b, 0, none⟩) 1 1 ∧ rs = [Res.row b 23 (u32C ((((l.getD i zeroR).ws.length : Int) + 1) * 65536 + (l.getD i zeroR).op))]) tab14 18 (fun f' L' w' hc => Op1.buildSl (z0 := [.int .u32 0]) hc.st ty43 ty23 rfl rfl (by kernel_rfl) (.c (v := .int .u32 _) (hc.det (j := 16) rfl rfl rfl rfl) (h := .nil)) fun w b hst => ⟨[_], ⟨b, rfl, rfl⟩, hst⟩) ?_
   refine RunD.fin followsMixed tab14 hst rfl (fun f15 w R18 hs16 hd17 hr19 hst => ?_)
   obtain ⟨h38_, r0⟩ := hd17 0 38 rfl rfl
   obtain ⟨h39_, r1⟩ := hd17 1 39 rfl rfl
   obtain ⟨h40_, r2⟩ := hd17 2 40 rfl rfl
   obtain ⟨h41_, r3⟩ := hd17 3 41 rfl rfl
   obtain ⟨h42_, r4⟩ := hd17 4 42 rfl rfl
   obtain ⟨h43_, r5⟩ := hd17 5 43 rfl rfl
   obtain ⟨h44_, r6⟩ := hd17 6 44 rfl rfl
   obtain ⟨h45_, r7⟩ := hd17 7 45 rfl rfl
   obtain ⟨h46_, r8⟩ := hd17 8 46 rfl rfl
   obtain ⟨h47_, r9⟩ := hd17 9 47 rfl rfl
   obtain ⟨h48_, r10⟩ := hd17 10 48 rfl rfl
   obtain ⟨h49_, r11⟩ := hd17 11 49 rfl rfl
   obtain ⟨h50_, r12⟩ := hd17 12 50 rfl rfl
   obtain ⟨h51_, r13⟩ := hd17 13 51 rfl rfl
   obtain ⟨h52_, r14⟩ := hd17 14 52 rfl rfl
   obtain ⟨h53_, r15⟩ := hd17 15 53 rfl rfl
   obtain ⟨h54_, r16⟩ := hd17 16 54 rfl rfl
   obtain ⟨b55, h55_, r17⟩ := hd17 17 55 rfl rfl
   simp only [show List.range 18 = [0, 1, 2, 3, 4, 5, 6, 7, 8, 9, 10, 11, 12, 13, 14, 15, 16, 17] from rfl, List.flatMap_cons, List.flatMap_nil, List.map_cons, List.map_nil, r0, r1, r2, r3, r4, r5, r6, r7, r8, r9, r10, r11, r12, r13, r14, r15, r16, r17, List.nil_append, List.append_nil, List.cons_append] at hst
   refine RunL.slots (sl := [(1, .slice _ _ _), (5, .pointer (some ⟨_, _, none⟩)), (8, .int .i64 _), (38, .slice _ _ _), (55, .slice _ _ _)]) ⟨(hs16 1 rfl).trans rfl, (hs16 5 rfl).trans rfl, (hs16 8 rfl).trans rfl, h38_, h55_, trivial⟩ ?_
   clear hs16 hd17 hr19 tab14
   refine CN (Op1.append (news := [.int .u32 _]) hst ty43 ty23 rfl rfl (.there (.here)) rfl rfl rfl (cells_of_obj (n := 1) (hst.objL (.head _)) _ rfl) rfl rfl (by omega) fun w ao20 cp21 hst => ?_)
   replace hst := hst.drop (.there (.here))
   refine AL rfl <| NL <| Run.forget [(1, .slice _ _ _), (5, .pointer (some ⟨_, _, none⟩)), (7, .slice _ _ _), (8, .int .i64 _)] ⟨rfl, rfl, rfl, rfl, trivial⟩ fun f => SR <| AI rfl <| NL <| run_block <| run_loop <| Run.indW [(1, .slice _ _ _), (5, .pointer (some ⟨_, _, none⟩)), (8, .int .i64 _)] ⟨rfl, rfl, rfl, trivial⟩ (fun (q : Nat × Option Addr × Nat) => [(7, .slice q.2.1 ((writeW gn bd ((l.take i).map RawP.L)).length + 1 + q.1) q.2.2), (9, .int .i64 (q.1 : Int))]) (fun (q : Nat × Option Addr × Nat) => [Res.sl q.2.1 ((writeW gn bd ((l.take i).map RawP.L)).length + 1 + q.1) q.2.2 23 1 ((writeW gn bd ((l.take i).map RawP.L)).flatMap u32C ++ [.int .u32 ((((l.getD i zeroR).ws.length : Int) + 1) * 65536 + (l.getD i zeroR).op)] ++ ((l.getD i zeroR).ws.take q.1).flatMap u32C)]) (fun (q : Nat × Option Addr × Nat) => q.1 ≤ (l.getD i zeroR).ws.length) (fun (q : Nat × Option Addr × Nat) => (l.getD i zeroR).ws.length - q.1) ((0, _, _)) (by (try dsimp only); rw [List.take_zero, List.flatMap_nil, List.append_nil (List.flatMap u32C _ ++ _)]; exact hst) (Nat.zero_le _) ⟨rfl, rfl, trivial⟩ ?_
   intro ⟨k, ak, ck⟩ f w hst hK ih22
   replace hst : St _ _ ([Res.sl ak ((writeW gn bd ((l.take i).map RawP.L)).length + 1 + k) ck 23 1 ((writeW gn bd ((l.take i).map RawP.L)).flatMap u32C ++ [.int .u32 ((((l.getD i zeroR).ws.length : Int) + 1) * 65536 + (l.getD i zeroR).op)] ++ ((l.getD i zeroR).ws.take k).flatMap u32C)] ++ [_, _, _]) _ _ := hst
   replace hK : k ≤ (l.getD i zeroR).ws.length := hK
   refine Run.slots (sl := [(7, .slice ak ((writeW gn bd ((l.take i).map RawP.L)).length + 1 + k) ck), (9, .int .i64 (k : Int))]) ⟨rfl, rfl, trivial⟩ <| SQ <| SR <| MI rfl <| ML rfl <| MI rfl <| CN <| Op1.indexRs ty67 ty45 (Res.rraws_raws (hst.hD _ (.head _))) rfl rfl (by omega) (by omega) <| CN <| Op1.fieldAddr fld45_1 rfl <| CN <| Op1.load1 (v := .slice _ _ _) ty43 rfl rfl (Res.rs2_cellF (Res.rraws_raws (hst.hD _ (.head _))) (flat_cell (g := rawC) (d := zeroR) rawC_len rfl (by omega))) <| CN <| Op1.lenSl (rest := []) ty43 rfl <| CN <| Op1.lss rfl rfl <| NL <| run_cond_dec rfl (fun g23 => ?_) (fun g23 => ?_)
   · skip
     have hidk : (l.getD i zeroR).ws.getD ((k : Int)).toNat 0 = (l.getD i zeroR).ws.getD k 0 := rfl
     refine run_skip <| SQ <| run_block <| RG <| ML rfl <| ML rfl <| MI rfl <| CN <| Op1.indexRs ty67 ty45 (Res.rraws_raws (hst.hD _ (.head _))) rfl rfl (by omega) (by omega) <| CN <| Op1.fieldAddr fld45_1 rfl <| CN <| Op1.load1 (v := .slice _ _ _) ty43 rfl rfl (Res.rs2_cellF (Res.rraws_raws (hst.hD _ (.head _))) (flat_cell (g := rawC) (d := zeroR) rawC_len rfl (by omega))) <| MI rfl <| CN <| Op1.indexRs ty43 ty23 (Res.rraws_wsI (hst.hD _ (.head _)) (i := i) (by omega)) rfl rfl (by omega) (by omega) <| CN <| Op1.load1 (v := .int .u32 _) ty23 rfl rfl (Res.rs2_cell (Res.rraws_wsI (hst.hD _ (.head _)) (i := i) (by omega)) (flat_cell0 (g := u32C) (d := 0) u32C_len rfl (by omega))) <| CN (Op1.buildSl (z0 := [.int .u32 0]) hst ty43 ty23 rfl rfl (by kernel_rfl) (.c (v := .int .u32 _) rfl (h := .nil)) fun w b76 hst => ?_)
     refine CN (Op1.append (news := [.int .u32 _]) hst ty43 ty23 rfl rfl (.there (.here)) rfl rfl rfl (cells_of_obj (n := 1) (hst.objL (.head _)) _ rfl) rfl rfl (by omega) fun w ao24 cp25 hst => ?_)
     replace hst := hst.drop (.there (.here))
     refine AL rfl <| NL <| run_inBlock <| Run.forget [(1, .slice _ _ _), (5, .pointer (some ⟨_, _, none⟩)), (7, .slice _ _ _), (8, .int .i64 _), (9, .int .i64 _)] ⟨rfl, rfl, rfl, rfl, rfl, trivial⟩ fun f => RG <| MI rfl <| CN <| Op1.addN rfl rfl rfl (wrap_i64 (by omega) (by omega)) <| AI rfl <| NL <| run_inLoop ?_
     have e3 : (writeW gn bd ((l.take i).map RawP.L)).flatMap u32C ++ [.int .u32 ((((l.getD i zeroR).ws.length : Int) + 1) * 65536 + (l.getD i zeroR).op)] ++ ((l.getD i zeroR).ws.take k).flatMap u32C ++ [.int .u32 ((l.getD i zeroR).ws.getD k 0)] = (writeW gn bd ((l.take i).map RawP.L)).flatMap u32C ++ [.int .u32 ((((l.getD i zeroR).ws.length : Int) + 1) * 65536 + (l.getD i zeroR).op)] ++ ((l.getD i zeroR).ws.take (k + 1)).flatMap u32C := by rw [take_getD2 (d := 0) (by omega), List.flatMap_append]; simp only [List.append_assoc]; rfl
     exact ih22 ((k + 1, ao24, cp25)) _ w (by (try dsimp only); omega) (by (try dsimp only); rw [← e3]; exact hst) (by (try dsimp only); omega) ⟨rfl, rfl, rfl, trivial⟩ ⟨rfl, (congrArg (Value.int .i64) (by (try dsimp only); omega)), trivial⟩
   refine run_exit (id := 2) rfl <| run_inBlock <| RG <| MI rfl <| CN <| Op1.addN rfl rfl rfl (wrap_i64 (by omega) (by omega)) <| AI rfl <| NL <| run_inLoop ?_
   obtain rfl : k = (l.getD i zeroR).ws.length := by omega
   have e0 := writeW_take (gn := gn) (bd := bd) (l := l) (i := i) (by omega)
   have e1 : (writeW gn bd ((l.take i).map RawP.L)).length + 1 + (l.getD i zeroR).ws.length = (writeW gn bd ((l.take (i + 1)).map RawP.L)).length := by rw [e0]; simp only [List.length_append, List.length_cons, List.length_nil]
   have e2 : (writeW gn bd ((l.take i).map RawP.L)).flatMap u32C ++ [.int .u32 ((((l.getD i zeroR).ws.length : Int) + 1) * 65536 + (l.getD i zeroR).op)] ++ (l.getD i zeroR).ws.flatMap u32C = (writeW gn bd ((l.take (i + 1)).map RawP.L)).flatMap u32C := by rw [e0]; simp only [List.flatMap_append]; rfl
   rw [List.take_length, e1, e2] at hst
   exact ih12 ((i + 1, ak, ck)) _ w (by (try dsimp only); omega) hst (by (try dsimp only); omega) ⟨rfl, rfl, trivial⟩ ⟨(by (try dsimp only); rw [← e1]; rfl), (congrArg (Value.int .i64) (by (try dsimp only); omega)), trivial⟩
 obtain rfl : i = l.length := by omega
 rw [List.take_length] at hst
 refine run_exit (id := 0) rfl <| SR <| ML rfl <| CN (Op1.buildStruct ty29 stf29 .nil ?_)
 refine AL rfl <| CN (SO (v := .agg #[.int .i64 _, .int .i64 _]) hst ty29 rfl rfl (.there (.there (.here))) fun w hst => ?_)
 refine NL <| run_ret2 Try.func74 rfl (TP (v := .slice _ _ _) rfl) (RV.cellA (vs := [.int .i64 _, .int .i64 _]) rfl ty29 rfl rfl (cells_of_obj (n := 2) (hst.objL (.tail _ (.tail _ (.head _)))) _ rfl)) ?_
 replace hst := hst.pick (.cons (.here) .nil)
 have hr := writeF_ok (gn := gn) (l := l.map RawP.L) (bd := bd) (by omega) (by omega) (by rw [← lens_eq, hce]; exact hce2)
 rw [hr, List.take_length]
 exact ⟨_, _, rfl, hst.noD⟩
end Go.SK
namespace Go.SK
open Go Go.Proofs
open Go.RowKit
theorem R3ref2_Write2 (gn bd : Int) (done : List RawP) (ao : Option Addr) (cp : Nat) {ws : List Int} (hW : writeF gn bd (done.map RawP.L) = (ws, (0, 0))) (w : World) (hA : (Res.rraws ao done).holds w) (hl : done.length ≤ 35184372088832) (hla : ∀ r ∈ done, r.ws.length ≤ 35184372088832) (hop : ∀ r ∈ done, 0 ≤ r.op ∧ r.op < 65536) : Ret Try.prog 74 #[.agg #[.int .u32 gn, .int .u32 bd], .slice ao done.length cp] w (fun v w' => ∃ ro rc, v = .tuple #[.slice ro ws.length rc, .agg #[.int .i64 0, .int .i64 0]] ∧ St w NoM [Res.sl ro ws.length rc 23 1 (ws.flatMap u32C)] [] w') := by
 have h := R3ref2_Write gn bd done ao cp w hA hl hla hop
 rw [hW] at h; exact h
end Go.SK
namespace Go.SK
open Go Go.Proofs
theorem ent74 : Enters Try.prog 74 := ⟨Try.f74, _, Try.func74, by kernel_rfl, rfl⟩
theorem ent42 : Enters Try.prog 42 := ⟨Try.f42, _, Try.func42, by kernel_rfl, rfl⟩
theorem ent44 : Enters Try.prog 44 := ⟨Try.f44, _, Try.func44, by kernel_rfl, rfl⟩
theorem ent43 : Enters Try.prog 43 := ⟨Try.f43, _, Try.func43, by kernel_rfl, rfl⟩
end Go.SK
namespace Go.SK
open Go Go.Proofs
open Go.RowKit
theorem R3ref4_Shape (gn bd : Int) (l : List InstP) (ao : Option Addr) (cp : Nat) (w : World) (hA : (Res.rmod ao l).holds w) (hl : l.length ≤ 3000000000000) (hop : ∀ i ∈ l, 0 ≤ i.op) (hsm : ∀ i ∈ l, (i.args.map argRoom).sum ≤ 900000000) (hla : ∀ i ∈ l, ∀ a ∈ i.args, a.s.length ≤ 100000000000) : Ret Try.prog 42 #[.agg #[.int .u32 gn, .int .u32 bd, .slice ao l.length cp]] w (fun v w' => v = .agg #[.int .i64 (shapeF bd (l.map InstP.L)).1, .int .i64 (shapeF bd (l.map InstP.L)).2] ∧ St w NoM [] [] w') := by
 refine Ret.enter (args := [.agg #[.int .u32 gn, .int .u32 bd, .slice ao l.length cp]]) Try.func42 rfl rfl rfl ?_
 have hst : St w NoM [] [Res.rmod ao l] w := St.init_D hA
 clear hA
 refine SR <| CN <| Op1.box (v := .agg #[.int .u32 _, .int .u32 _, .slice _ _ _]) hst rfl rfl fun w b1 hst => CN <| Op1.alloc hst ty29 fun w b2 hst => NL <| SQ <| SR <| CN <| Op1.fieldAddr fld26_1 rfl <| CN <| Op1.load1 (v := .int .u32 _) ty23 rfl rfl (hst.cellL (.tail _ (.head _)) rfl) <| CN <| Op1.eql rfl rfl <| MB rfl <| RunL.splitD (d := 11) rfl (fun g1 => ?_) (fun g1 => ?_)
 · skip
   refine OM (t := 11) rfl (congrArg Value.bool (decide_eq_true g1)) rfl <| OM (t := 11) rfl (congrArg Value.bool (decide_eq_true g1)) rfl <| OM (t := 11) rfl (congrArg Value.bool (decide_eq_true g1)) rfl <| CN <| Op1.pickT (u := .bool _) (congrArg Value.bool (decide_eq_true g1)) rfl <| NL <| run_cond_true (congrArg Value.bool (rfl : true = _)) <| SR <| CN (Op1.buildStruct ty29 stf29 (.c (v := .int .i64 _) rfl (h := .nil)) ?_)
   refine CN (SO (v := .agg #[.int .i64 _, .int .i64 _]) hst ty29 rfl rfl (.here) fun w hst => ?_)
   refine NL <| run_ret1 Try.func42 rfl (RV.cellA (vs := [.int .i64 _, .int .i64 _]) rfl ty29 rfl rfl (cells_of_obj (n := 2) (hst.objL (.head _)) _ rfl)) ?_
   have hS := shapeF_bound (bound := bd) (l := (l.map InstP.L)) (by omega)
   rw [hS]
   exact ⟨rfl, hst.pure⟩
 refine TK (t := 11) rfl (congrArg Value.bool (decide_eq_false g1)) <| Op1.fieldAddr fld26_1 rfl <| TK (t := 11) rfl (congrArg Value.bool (decide_eq_false g1)) <| Op1.load1 (v := .int .u32 _) ty23 rfl rfl (hst.cellL (.tail _ (.head _)) rfl) <| TK (t := 11) rfl (congrArg Value.bool (decide_eq_false g1)) <| Op1.gtr rfl rfl <| CN <| Op1.pickF (u := .bool _) (congrArg Value.bool (decide_eq_false g1)) rfl <| NL <| run_cond_dec rfl (fun g2 => ?_) (fun g2 => ?_)
 · skip
   refine SR <| CN (Op1.buildStruct ty29 stf29 (.c (v := .int .i64 _) rfl (h := .nil)) ?_)
   refine CN (SO (v := .agg #[.int .i64 _, .int .i64 _]) hst ty29 rfl rfl (.here) fun w hst => ?_)
   refine NL <| run_ret1 Try.func42 rfl (RV.cellA (vs := [.int .i64 _, .int .i64 _]) rfl ty29 rfl rfl (cells_of_obj (n := 2) (hst.objL (.head _)) _ rfl)) ?_
   have hS := shapeF_bound (bound := bd) (l := (l.map InstP.L)) (by omega)
   rw [hS]
   exact ⟨rfl, hst.pure⟩
 refine run_skip <| SR <| AI rfl <| NL <| SQ <| SR <| AI rfl <| NL <| run_block <| run_loop <| Run.indW [(1, .pointer (some ⟨_, _, none⟩)), (2, .pointer (some ⟨_, _, none⟩))] ⟨rfl, rfl, trivial⟩ (fun (q : Nat × Nat) => [(3, .int .i64 (q.2 : Int)), (4, .int .i64 (q.1 : Int))]) (fun (q : Nat × Nat) => []) (fun (q : Nat × Nat) => q.1 ≤ l.length ∧ shapeG bd 5 0 (l.map InstP.L) = shapeG bd q.2 q.1 ((l.map InstP.L).drop q.1) ∧ q.2 ≤ 1048576) (fun (q : Nat × Nat) => l.length - q.1) ((0, 5)) hst ⟨Nat.zero_le _, rfl, by decide⟩ ⟨rfl, rfl, trivial⟩ ?_
 intro ⟨i, n⟩ f w hst hJ ih3
 replace hst : St _ _ ([] ++ [_, _]) _ _ := hst
 replace hJ : i ≤ l.length ∧ shapeG bd 5 0 (l.map InstP.L) = shapeG bd n i ((l.map InstP.L).drop i) ∧ n ≤ 1048576 := hJ
 refine Run.slots (sl := [(3, .int .i64 (n : Int)), (4, .int .i64 (i : Int))]) ⟨rfl, rfl, trivial⟩ <| SQ <| SR <| MI rfl <| CN <| Op1.fieldAddr fld26_2 rfl <| CN <| Op1.load1 (v := .slice _ _ _) ty24 rfl rfl (hst.cellL (.tail _ (.head _)) rfl) <| CN <| Op1.lenSl (rest := []) ty24 rfl <| CN <| Op1.lss rfl rfl <| NL <| run_cond_dec rfl (fun g4 => ?_) (fun g4 => ?_)
 · skip
   have hmem : (l.getD i zeroI) ∈ l := getD_memD (by omega)
   have hidx : l.getD ((i : Int)).toNat zeroI = (l.getD i zeroI) := rfl
   obtain ⟨fe, hfe⟩ : ∃ fe, faultF bd (l.getD i zeroI).L = fe := ⟨_, rfl⟩
   obtain ⟨fm, hfm⟩ : ∃ fm, refD (l.getD i zeroI).op = fm := ⟨_, rfl⟩
   obtain ⟨ob, hob⟩ : ∃ ob, (refS (l.getD i zeroI).op).isSome = ob := ⟨_, rfl⟩
   have hsh := shapeG_step (bound := bd) (n := n) (k := i) (l := (l.map InstP.L)) (j := i) (by rw [List.length_map]; omega)
   rw [mapL_getD (by omega), hfe] at hsh
   dsimp only at hsh
   rw [hfm] at hsh
   refine run_skip <| SQ <| run_block <| SQ <| RunD.start [] hst (bs := [0, 1, 0, 7, 15, 0, 32, 127, 255]) (ds := [some 24, some 25, some 26, some 27, some 28, some 29, some 30, some 31, some 5]) ⟨by kernel_rfl, by kernel_rfl, by kernel_rfl⟩ (fun tab5 => ?_)
   refine RunD.op (det _) tab5 1 (fun f' L' w' hc => Op1.fieldAddr fld26_2 (hc.old (v := .pointer (some ⟨_, _, none⟩)) rfl rfl rfl) ⟨[], ⟨rfl, rfl⟩, hc.st⟩) <| RunD.op (det _) tab5 2 (fun f' L' w' hc => Op1.load1 (v := .slice _ _ _) ty24 rfl (hc.det (j := 0) rfl rfl rfl rfl) (hc.st.cellL (List.mem_append_right _ (.tail _ (.head _))) rfl) ⟨[], ⟨rfl, rfl⟩, hc.st⟩) <| RunD.op (det _) tab5 3 (fun f' L' w' hc => Op1.move (v := .int .i64 _) (hc.old (v := .int .i64 _) rfl rfl rfl) ⟨[], ⟨rfl, rfl⟩, hc.st⟩) <| RunD.op (det _) tab5 4 (fun f' L' w' hc => Op1.indexRs ty24 ty48 (Res.rmod_insts (hc.st.hD _ (.head _))) (hc.det (j := 1) rfl rfl rfl rfl) (hc.det (j := 2) rfl rfl rfl rfl) (by omega) (by omega) ⟨[], ⟨rfl, rfl⟩, hc.st⟩) <| RunD.op (det _) tab5 5 (fun f' L' w' hc => Op1.loadA (vs := [.int .u16 _, .int .u32 _, .int .u32 _, .slice _ _ _]) ty48 rfl (hc.det (j := 3) rfl rfl rfl rfl) rfl (Res.rs2_cells (m := 4) (Res.rmod_insts (hc.st.hD _ (.head _))) _ (flat_seg (g := instC) (d := zeroI) instC_len _ _ (by omega))) ⟨[], ⟨rfl, rfl⟩, hc.st⟩) <| RunD.op (det _) tab5 6 (fun f' L' w' hc => Op1.fieldAddr fld26_1 (hc.old (v := .pointer (some ⟨_, _, none⟩)) rfl rfl rfl) ⟨[], ⟨rfl, rfl⟩, hc.st⟩) <| RunD.op (det _) tab5 7 (fun f' L' w' hc => Op1.load1 (v := .int .u32 _) ty23 rfl (hc.det (j := 5) rfl rfl rfl rfl) (hc.st.cellL (List.mem_append_right _ (.tail _ (.head _))) rfl) ⟨[], ⟨rfl, rfl⟩, hc.st⟩) <| RunD.fin followsMixed tab5 hst rfl (fun f6 w R9 hs7 hd8 hr10 hst => ?_)
   obtain ⟨h24_, r0⟩ := hd8 0 24 rfl rfl
   obtain ⟨h25_, r1⟩ := hd8 1 25 rfl rfl
   obtain ⟨h26_, r2⟩ := hd8 2 26 rfl rfl
   obtain ⟨h27_, r3⟩ := hd8 3 27 rfl rfl
   obtain ⟨h28_, r4⟩ := hd8 4 28 rfl rfl
   obtain ⟨h29_, r5⟩ := hd8 5 29 rfl rfl
   obtain ⟨h30_, r6⟩ := hd8 6 30 rfl rfl
   simp only [show List.range 7 = [0, 1, 2, 3, 4, 5, 6] from rfl, List.flatMap_cons, List.flatMap_nil, List.map_cons, List.map_nil, r0, r1, r2, r3, r4, r5, r6, List.nil_append, List.append_nil, List.cons_append] at hst
   refine RunL.slots (sl := [(1, .pointer (some ⟨_, _, none⟩)), (2, .pointer (some ⟨_, _, none⟩)), (3, .int .i64 _), (4, .int .i64 _), (28, .agg #[.int .u16 _, .int .u32 _, .int .u32 _, .slice _ _ _]), (30, .int .u32 _)]) ⟨(hs7 1 rfl).trans rfl, (hs7 2 rfl).trans rfl, (hs7 3 rfl).trans rfl, (hs7 4 rfl).trans rfl, h28_, h30_, trivial⟩ ?_
   clear hs7 hd8 hr10 tab5
   refine CN <| Op1.call2 (v1 := .agg #[.int .u16 _, .int .u32 _, .int .u32 _, .slice _ _ _]) (v2 := .int .u32 _) ent59 rfl rfl rfl <| Ret.detE (R3ref4_Fault (l.getD i zeroI) bd (hop _ hmem) _ (Res.rmod_argsI (hst.hD _ (.head _)) (i := i) (by omega)) (hsm _ hmem) (hla _ hmem)) (congrArg (Value.int .i64) hfe) hst fun w hst => AI rfl <| NL <| SQ <| SR <| MI rfl <| CN <| Op1.neq rfl rfl <| NL <| run_cond_dec rfl (fun g11 => ?_) (fun g11 => ?_)
   · skip
     refine SR <| MI rfl <| MI rfl <| CN (Op1.buildStruct ty29 stf29 (.c (v := .int .i64 _) rfl (h := (.c (v := .int .i64 _) rfl (h := .nil)))) ?_)
     refine CN (SO (v := .agg #[.int .i64 _, .int .i64 _]) hst ty29 rfl rfl (.here) fun w hst => ?_)
     refine NL <| run_ret1 Try.func42 rfl (RV.cellA (vs := [.int .i64 _, .int .i64 _]) rfl ty29 rfl rfl (cells_of_obj (n := 2) (hst.objL (.head _)) _ rfl)) ?_
     rw [if_pos g11] at hsh
     have hS := shapeF_in (bound := bd) (l := (l.map InstP.L)) (by omega) (by omega)
     rw [hJ.2.1, hsh] at hS
     rw [hS]
     exact ⟨rfl, hst.pure⟩
   refine run_skip <| SR <| CN <| Op1.fieldAddr fld26_2 rfl <| CN <| Op1.load1 (v := .slice _ _ _) ty24 rfl rfl (hst.cellL (.tail _ (.head _)) rfl) <| MI rfl <| CN <| Op1.indexRs ty24 ty48 (Res.rmod_insts (hst.hD _ (.head _))) rfl rfl (by omega) (by omega) <| CN <| Op1.fieldAddr fld48_0 rfl <| CN <| Op1.load1 (v := .int .u16 _) ty42 rfl rfl (Res.rs2_cellF (Res.rmod_insts (hst.hD _ (.head _))) (flat_cell (g := instC) (d := zeroI) instC_len rfl (by omega))) <| CN <| Op1.call1 (v1 := .int .u16 _) ent48 rfl rfl <| Ret.det (R3ref_Of2 hfm hob _) hst fun w hst => CN <| Op1.move (v := .tuple #[.agg #[.int .u16 _, str _, .bool _, .bool _, str _, str _, .int .i64 _, .int .u8 _], .bool _]) rfl <| CN <| Op1.extract (v := .agg #[.int .u16 _, str _, .bool _, .bool _, str _, str _, .int .i64 _, .int .u8 _]) rfl rfl <| CN <| Op1.extract (v := .bool _) rfl rfl <| CN <| Op1.alloc hst ty80 fun w b6 hst => CN (SO (v := .agg #[.int .u16 _, str _, .bool _, .bool _, str _, str _, .int .i64 _, .int .u8 _]) hst ty80 rfl rfl (.here) fun w hst => ?_)
   refine AB rfl <| NL <| Run.forget [(1, .pointer (some ⟨_, _, none⟩)), (2, .pointer (some ⟨_, _, none⟩)), (3, .int .i64 _), (4, .int .i64 _), (6, .pointer (some ⟨_, _, none⟩))] ⟨rfl, rfl, rfl, rfl, rfl, trivial⟩ fun f => SQ ?_
   have hrb : (roomI fm (l.getD i zeroI).args : Int) ≤ 900000003 := by have := hsm _ hmem; unfold roomI b2n; split <;> split <;> omega
   refine RunD.start [] hst (bs := [0, 0, 2, 0, 14, 30, 0, 126, 255, 511]) (ds := [some 47, some 48, some 49, some 50, some 51, some 52, some 53, some 54, some 55, some 3]) ⟨by kernel_rfl, by kernel_rfl, by kernel_rfl⟩ (fun tab12 => ?_)
   refine RunD.op (det _) tab12 1 (fun f' L' w' hc => Op1.move (v := .int .i64 _) (hc.old (v := .int .i64 _) rfl rfl rfl) ⟨[], ⟨rfl, rfl⟩, hc.st⟩) <| RunD.op (det _) tab12 2 (fun f' L' w' hc => Op1.fieldAddr fld26_2 (hc.old (v := .pointer (some ⟨_, _, none⟩)) rfl rfl rfl) ⟨[], ⟨rfl, rfl⟩, hc.st⟩) <| RunD.op (det _) tab12 3 (fun f' L' w' hc => Op1.load1 (v := .slice _ _ _) ty24 rfl (hc.det (j := 1) rfl rfl rfl rfl) (hc.st.cellL (List.mem_append_right _ (.tail _ (.tail _ (.head _)))) rfl) ⟨[], ⟨rfl, rfl⟩, hc.st⟩) <| RunD.op (det _) tab12 4 (fun f' L' w' hc => Op1.move (v := .int .i64 _) (hc.old (v := .int .i64 _) rfl rfl rfl) ⟨[], ⟨rfl, rfl⟩, hc.st⟩) <| RunD.op (det _) tab12 5 (fun f' L' w' hc => Op1.indexRs ty24 ty48 (Res.rmod_insts (hc.st.hD _ (.head _))) (hc.det (j := 2) rfl rfl rfl rfl) (hc.det (j := 3) rfl rfl rfl rfl) (by omega) (by omega) ⟨[], ⟨rfl, rfl⟩, hc.st⟩) <| RunD.op (det _) tab12 6 (fun f' L' w' hc => Op1.loadA (vs := [.int .u16 _, .int .u32 _, .int .u32 _, .slice _ _ _]) ty48 rfl (hc.det (j := 4) rfl rfl rfl rfl) rfl (Res.rs2_cells (m := 4) (Res.rmod_insts (hc.st.hD _ (.head _))) _ (flat_seg (g := instC) (d := zeroI) instC_len _ _ (by omega))) ⟨[], ⟨rfl, rfl⟩, hc.st⟩) <| RunD.op (det _) tab12 7 (fun f' L' w' hc => Op1.loadA (vs := [.int .u16 _, str _, .bool _, .bool _, str _, str _, .int .i64 _, .int .u8 _]) ty80 rfl (hc.old (v := .pointer (some ⟨_, _, none⟩)) rfl rfl rfl) rfl (cells_of_obj (n := 8) (hc.st.objL (List.mem_append_right _ (.head _))) _ rfl) ⟨[], ⟨rfl, rfl⟩, hc.st⟩) <| RunD.op (det _) tab12 8 (fun f' L' w' hc => Op1.call2 (v1 := .agg #[.int .u16 _, .int .u32 _, .int .u32 _, .slice _ _ _]) (v2 := .agg #[.int .u16 _, str _, .bool _, .bool _, str _, str _, .int .i64 _, .int .u8 _]) ent72 rfl (hc.det (j := 5) rfl rfl rfl rfl) (hc.det (j := 6) rfl rfl rfl rfl) ((R3ref4_Room (l.getD i zeroI) fm _ (Res.rmod_argsI (hc.st.hD _ (.head _)) (i := i) (by omega)) (hsm _ hmem) (hla _ hmem)).mono fun v w hp => ⟨[], ⟨hp.1, rfl⟩, hc.st.keepc hp.2⟩)) <| RunD.fin followsMixed tab12 hst rfl (fun f13 w R16 hs14 hd15 hr17 hst => ?_)
   obtain ⟨h47_, r0⟩ := hd15 0 47 rfl rfl
   obtain ⟨h48_, r1⟩ := hd15 1 48 rfl rfl
   obtain ⟨h49_, r2⟩ := hd15 2 49 rfl rfl
   obtain ⟨h50_, r3⟩ := hd15 3 50 rfl rfl
   obtain ⟨h51_, r4⟩ := hd15 4 51 rfl rfl
   obtain ⟨h52_, r5⟩ := hd15 5 52 rfl rfl
   obtain ⟨h53_, r6⟩ := hd15 6 53 rfl rfl
   obtain ⟨h54_, r7⟩ := hd15 7 54 rfl rfl
   simp only [show List.range 8 = [0, 1, 2, 3, 4, 5, 6, 7] from rfl, List.flatMap_cons, List.flatMap_nil, List.map_cons, List.map_nil, r0, r1, r2, r3, r4, r5, r6, r7, List.nil_append, List.append_nil, List.cons_append] at hst
   refine RunL.slots (sl := [(1, .pointer (some ⟨_, _, none⟩)), (2, .pointer (some ⟨_, _, none⟩)), (4, .int .i64 _), (47, .int .i64 _), (54, .int .i64 _)]) ⟨(hs14 1 rfl).trans rfl, (hs14 2 rfl).trans rfl, (hs14 4 rfl).trans rfl, h47_, h54_, trivial⟩ ?_
   clear hs14 hd15 hr17 tab12
   refine CN <| Op1.addN rfl rfl rfl (wrap_i64 (by omega) (by omega)) <| AI rfl <| NSR <| MI rfl <| CN <| Op1.gtr rfl rfl <| NL <| run_cond_dec rfl (fun g18 => ?_) (fun g18 => ?_)
   · skip
     refine SR <| MI rfl <| CN (Op1.buildStruct ty29 stf29 (.c (v := .int .i64 _) rfl (h := (.c (v := .int .i64 _) rfl (h := .nil)))) ?_)
     refine CN (SO (v := .agg #[.int .i64 _, .int .i64 _]) hst ty29 rfl rfl (.there (.here)) fun w hst => ?_)
     refine NL <| run_ret1 Try.func42 rfl (RV.cellA (vs := [.int .i64 _, .int .i64 _]) rfl ty29 rfl rfl (cells_of_obj (n := 2) (hst.objL (.tail _ (.head _))) _ rfl)) ?_
     rw [if_neg g11, if_pos (by omega)] at hsh
     have hS := shapeF_in (bound := bd) (l := (l.map InstP.L)) (by omega) (by omega)
     rw [hJ.2.1, hsh] at hS
     rw [hS]
     exact ⟨rfl, hst.pure⟩
   refine run_skip <| run_inBlock <| RG <| MI rfl <| CN <| Op1.addN rfl rfl rfl (wrap_i64 (by omega) (by omega)) <| AI rfl <| NL <| run_inLoop ?_
   rw [if_neg g11, if_neg (by omega)] at hsh
   replace hst := hst.pick (.cons (.there (.here)) (.cons (.there (.here)) .nil))
   exact ih3 ((i + 1, n + roomI fm (l.getD i zeroI).args)) _ w (by (try dsimp only); omega) hst (⟨by (try dsimp only); omega, hJ.2.1.trans hsh, by (try dsimp only); omega⟩) ⟨rfl, rfl, trivial⟩ ⟨(congrArg (Value.int .i64) (by (try dsimp only); omega)), (congrArg (Value.int .i64) (by (try dsimp only); omega)), trivial⟩
 obtain rfl : i = l.length := by omega
 refine run_exit (id := 0) rfl <| SR <| CN (Op1.buildStruct ty29 stf29 .nil ?_)
 refine CN (SO (v := .agg #[.int .i64 _, .int .i64 _]) hst ty29 rfl rfl (.here) fun w hst => ?_)
 refine NL <| run_ret1 Try.func42 rfl (RV.cellA (vs := [.int .i64 _, .int .i64 _]) rfl ty29 rfl rfl (cells_of_obj (n := 2) (hst.objL (.head _)) _ rfl)) ?_
 have hll : l.length = (l.map InstP.L).length := by rw [List.length_map]
 have hS := shapeF_in (bound := bd) (l := (l.map InstP.L)) (by omega) (by omega)
 rw [hJ.2.1, hll, shapeG_end] at hS
 rw [hS]
 exact ⟨rfl, hst.pure⟩
theorem R3ref4_Words (gn bd : Int) (l : List InstP) (ao : Option Addr) (cp : Nat) (w : World) (hA : (Res.rmod ao l).holds w) (hl : l.length ≤ 3000000000000) (hop : ∀ i ∈ l, 0 ≤ i.op) (hsm : ∀ i ∈ l, (i.args.map argRoom).sum ≤ 900000000) (hla : ∀ i ∈ l, ∀ a ∈ i.args, a.s.length ≤ 100000000000) (hop2 : ∀ i ∈ l, i.op < 65536) (hS1 : (shapeF bd (l.map InstP.L)).1 = 0) : Ret Try.prog 44 #[.agg #[.int .u32 gn, .int .u32 bd, .slice ao l.length cp]] w (fun v w' => ∃ ro rc, v = .slice ro (writeW gn bd (rawsF bd (l.map InstP.L))).length rc ∧ St w NoM [Res.sl ro (writeW gn bd (rawsF bd (l.map InstP.L))).length rc 23 1 ((writeW gn bd (rawsF bd (l.map InstP.L))).flatMap u32C)] [] w') := by
 refine Ret.enter (args := [.agg #[.int .u32 gn, .int .u32 bd, .slice ao l.length cp]]) Try.func44 rfl rfl rfl ?_
 have hst : St w NoM [] [Res.rmod ao l] w := St.init_D hA
 clear hA
 refine SR <| CN <| Op1.box (v := .agg #[.int .u32 _, .int .u32 _, .slice _ _ _]) hst rfl rfl fun w b1 hst => AL rfl <| NSR <| AL rfl <| NL <| SQ <| SQ ?_
 replace hst := hst.pushNil 45 2
 replace hst := hst.starNil
 refine RG <| AI rfl <| NL <| run_block <| run_loop <| Run.indW [(1, .pointer (some ⟨_, _, none⟩))] ⟨rfl, trivial⟩ (fun (q : Nat × Option Addr × Nat × List RawP) => [(3, .slice q.2.1 q.2.2.2.length q.2.2.1), (4, .int .i64 (q.1 : Int))]) (fun (q : Nat × Option Addr × Nat × List RawP) => [Res.star (q.2.2.2.map (Res.oword 23)), Res.sl q.2.1 q.2.2.2.length q.2.2.1 45 2 (q.2.2.2.flatMap rawC)]) (fun (q : Nat × Option Addr × Nat × List RawP) => q.1 ≤ l.length ∧ q.2.2.2.map RawP.L = rawsF bd ((l.map InstP.L).take q.1)) (fun (q : Nat × Option Addr × Nat × List RawP) => l.length - q.1) ((0, none, 0, [])) hst ⟨Nat.zero_le _, rfl⟩ ⟨rfl, rfl, trivial⟩ ?_
 intro ⟨i, aq, cq, done⟩ f w hst hJ ih1
 replace hst : St _ _ ([Res.star (done.map (Res.oword 23)), Res.sl aq done.length cq 45 2 (done.flatMap rawC)] ++ [_]) _ _ := hst
 replace hJ : i ≤ l.length ∧ done.map RawP.L = rawsF bd ((l.map InstP.L).take i) := hJ
 refine Run.slots (sl := [(3, .slice aq done.length cq), (4, .int .i64 (i : Int))]) ⟨rfl, rfl, trivial⟩ <| SQ <| SR <| MI rfl <| CN <| Op1.fieldAddr fld26_2 rfl <| CN <| Op1.load1 (v := .slice _ _ _) ty24 rfl rfl (hst.cellL (.tail _ (.tail _ (.head _))) rfl) <| CN <| Op1.lenSl (rest := []) ty24 rfl <| CN <| Op1.lss rfl rfl <| NL <| run_cond_dec rfl (fun g2 => ?_) (fun g2 => ?_)
 · skip
   have hmem : (l.getD i zeroI) ∈ l := getD_memD (by omega)
   have hidx : l.getD ((i : Int)).toNat zeroI = (l.getD i zeroI) := rfl
   obtain ⟨⟨⟨rop, rws⟩, re⟩, hR⟩ : ∃ q, rawF bd (l.getD i zeroI).L = q := ⟨_, rfl⟩
   have hdl : done.length ≤ i := by have := congrArg List.length hJ.2; simp only [rawsF, List.length_map, List.length_take] at this; omega
   refine run_skip <| SQ <| run_block <| SQ <| RunD.startT [(11, 12)] [] hst (bs := [0, 1, 0, 7, 15, 0, 32, 127, 255, 511, 511, 0, 3071, 8191]) (ds := [some 17, some 18, some 19, some 20, some 21, some 22, some 23, some 24, some 16, some 25, some 26, some 5, none, some 6]) ⟨by kernel_rfl, by kernel_rfl, by kernel_rfl⟩ (fun tab3 => ?_)
   refine RunD.op (det _) tab3 1 (fun f' L' w' hc => Op1.fieldAddr fld26_2 (hc.old (v := .pointer (some ⟨_, _, none⟩)) rfl rfl rfl) ⟨[], ⟨rfl, rfl⟩, hc.st⟩) <| RunD.op (det _) tab3 2 (fun f' L' w' hc => Op1.load1 (v := .slice _ _ _) ty24 rfl (hc.det (j := 0) rfl rfl rfl rfl) (hc.st.cellL (List.mem_append_right _ (.tail _ (.tail _ (.head _)))) rfl) ⟨[], ⟨rfl, rfl⟩, hc.st⟩) <| RunD.op (det _) tab3 3 (fun f' L' w' hc => Op1.move (v := .int .i64 _) (hc.old (v := .int .i64 _) rfl rfl rfl) ⟨[], ⟨rfl, rfl⟩, hc.st⟩) <| RunD.op (det _) tab3 4 (fun f' L' w' hc => Op1.indexRs ty24 ty48 (Res.rmod_insts (hc.st.hD _ (.head _))) (hc.det (j := 1) rfl rfl rfl rfl) (hc.det (j := 2) rfl rfl rfl rfl) (by omega) (by omega) ⟨[], ⟨rfl, rfl⟩, hc.st⟩) <| RunD.op (det _) tab3 5 (fun f' L' w' hc => Op1.loadA (vs := [.int .u16 _, .int .u32 _, .int .u32 _, .slice _ _ _]) ty48 rfl (hc.det (j := 3) rfl rfl rfl rfl) rfl (Res.rs2_cells (m := 4) (Res.rmod_insts (hc.st.hD _ (.head _))) _ (flat_seg (g := instC) (d := zeroI) instC_len _ _ (by omega))) ⟨[], ⟨rfl, rfl⟩, hc.st⟩) <| RunD.op (det _) tab3 6 (fun f' L' w' hc => Op1.fieldAddr fld26_1 (hc.old (v := .pointer (some ⟨_, _, none⟩)) rfl rfl rfl) ⟨[], ⟨rfl, rfl⟩, hc.st⟩) <| RunD.op (det _) tab3 7 (fun f' L' w' hc => Op1.load1 (v := .int .u32 _) ty23 rfl (hc.det (j := 5) rfl rfl rfl rfl) (hc.st.cellL (List.mem_append_right _ (.tail _ (.tail _ (.head _)))) rfl) ⟨[], ⟨rfl, rfl⟩, hc.st⟩) <| RunD.op (fun v rs => ∃ ro rc, v = .tuple #[.agg #[.int .u16 rop, .slice ro rws.length rc], .int .i64 re] ∧ rs = [Res.sl ro rws.length rc 23 1 (rws.flatMap u32C)]) tab3 8 (fun f' L' w' hc => Op1.call2 (v1 := .agg #[.int .u16 _, .int .u32 _, .int .u32 _, .slice _ _ _]) (v2 := .int .u32 _) ent30 rfl (hc.det (j := 4) rfl rfl rfl rfl) (hc.det (j := 6) rfl rfl rfl rfl) ((R3ref4_Raw2 hR (hop _ hmem) _ (Res.rmod_argsI (hc.st.hD _ (.head _)) (i := i) (by omega)) (hsm _ hmem) (hla _ hmem)).mono fun v w hp => (by obtain ⟨ro, rc, rfl, hp⟩ := hp; exact ⟨_, ⟨ro, rc, rfl, rfl⟩, hc.st.call0 hp⟩))) <| RunD.opR (fun g v rs => v = g 24 ∧ rs = []) tab3 9 (fun f' L' w' hc => Op1.move (evs rfl rfl) ⟨[], fun g hg => ⟨(hg 7 24 rfl rfl).symm, rfl⟩, hc.st⟩) <| RunD.opR (fun g v rs => (∀ ro rc, g 24 = .tuple #[.agg #[.int .u16 rop, .slice ro rws.length rc], .int .i64 re] → v = .agg #[.int .u16 rop, .slice ro rws.length rc]) ∧ rs = []) tab3 10 (fun f' L' w' hc => by obtain ⟨_, _, q1, _⟩ := hc.dep 7 24 rfl rfl; obtain ⟨ro, rc, htc, _⟩ := q1; obtain ⟨gm, _, q2, hgm, _⟩ := hc.dep 8 16 rfl rfl; have htm : f' 16 = .tuple #[.agg #[.int .u16 rop, .slice ro rws.length rc], .int .i64 re] := (by rw [q2.1, hgm 7 24 rfl rfl, htc]); exact Op1.extract (v := .agg #[.int .u16 rop, .slice ro rws.length rc]) (evs htm rfl) rfl ⟨[], fun g hg => ⟨fun ro2 rc2 e => (by rw [hg 7 24 rfl rfl, htc] at e; cases e; rfl), rfl⟩, hc.st⟩) <| RunD.op (det (.int .i64 re)) tab3 11 (fun f' L' w' hc => by obtain ⟨_, _, q1, _⟩ := hc.dep 7 24 rfl rfl; obtain ⟨ro, rc, htc, _⟩ := q1; obtain ⟨gm, _, q2, hgm, _⟩ := hc.dep 8 16 rfl rfl; have htm : f' 16 = .tuple #[.agg #[.int .u16 rop, .slice ro rws.length rc], .int .i64 re] := (by rw [q2.1, hgm 7 24 rfl rfl, htc]); exact Op1.extract (v := .int .i64 re) (evs htm rfl) rfl ⟨[], ⟨rfl, rfl⟩, hc.st⟩) <| RunD.op (fun v rs => ∃ b, v = .pointer (some ⟨b, 0, none⟩) ∧ rs = [Res.row b 45 [.int .u16 0, .slice none 0 0]]) tab3 12 (fun f' L' w' hc => Op1.alloc hc.st ty45 fun w b hst => ⟨[_], ⟨b, rfl, rfl⟩, hst⟩) <| RunD.over (fun g v rs => v = undef ∧ ∃ b, g 5 = .pointer (some ⟨b, 0, none⟩) ∧ ∀ ro rc, g 24 = .tuple #[.agg #[.int .u16 rop, .slice ro rws.length rc], .int .i64 re] → rs = [Res.row b 45 [.int .u16 rop, .slice ro rws.length rc]]) tab3 13 11 5 (.head _) rfl (fun f' L' L'' w' hc hq => by obtain ⟨_, rs, hz, _, hp⟩ := hq; obtain ⟨b, hb, hrs⟩ := hz; subst hrs; obtain ⟨_, _, q1, _⟩ := hc.dep 7 24 rfl rfl; obtain ⟨ro, rc, htc, _⟩ := q1; obtain ⟨gx, _, q3, hgx, _⟩ := hc.dep 9 25 rfl rfl; have htx := q3.1 ro rc ((hgx 7 24 rfl rfl).trans htc); have hst := hc.st.perm (hp.append_right _); exact Op1.store (v := .agg #[.int .u16 _, .slice _ _ _]) hst ty45 (evs hb rfl) (evs htx rfl) rfl rfl rfl .here (by repeat (first | exact Put.nil | apply Put.put | apply Put.skip)) fun w hst => ⟨[_], fun g hg => ⟨rfl, b, (hg 11 5 rfl rfl).trans hb, fun ro2 rc2 e => (by rw [hg 7 24 rfl rfl, htc] at e; cases e; rfl)⟩, hst⟩) ?_
   refine RunD.finT followsMixed tab3 hst rfl (fun f4 w R7 hs5 hd6 hr8 hst => ?_)
   obtain ⟨h17_, r0⟩ := hd6 0 17 rfl rfl
   obtain ⟨h18_, r1⟩ := hd6 1 18 rfl rfl
   obtain ⟨h19_, r2⟩ := hd6 2 19 rfl rfl
   obtain ⟨h20_, r3⟩ := hd6 3 20 rfl rfl
   obtain ⟨h21_, r4⟩ := hd6 4 21 rfl rfl
   obtain ⟨h22_, r5⟩ := hd6 5 22 rfl rfl
   obtain ⟨h23_, r6⟩ := hd6 6 23 rfl rfl
   obtain ⟨ro, rc, h24_, r7⟩ := hd6 7 24 rfl rfl
   obtain ⟨h16_, r8⟩ := hd6 8 16 rfl rfl
   rw [DrawTab.mask tab3 _ (j := 8) (l := 7) (t := 24) rfl rfl, h24_] at h16_
   obtain ⟨h25_, r9⟩ := hd6 9 25 rfl rfl
   replace h25_ := h25_ ro rc ((DrawTab.mask tab3 _ (j := 9) (l := 7) (t := 24) rfl rfl).trans h24_)
   obtain ⟨h26_, r10⟩ := hd6 10 26 rfl rfl
   obtain ⟨_, _, b5, h5_, r12⟩ := hr8 12 rfl
   rw [DrawTab.mask tab3 _ (j := 12) (l := 11) (t := 5) rfl rfl] at h5_
   replace r12 := r12 ro rc ((DrawTab.mask tab3 _ (j := 12) (l := 7) (t := 24) rfl rfl).trans h24_)
   simp only [show List.range 13 = [0, 1, 2, 3, 4, 5, 6, 7, 8, 9, 10, 11, 12] from rfl, List.flatMap_cons, List.flatMap_nil, List.map_cons, List.map_nil, show finR [(11, 12)] R7 0 = R7 0 from rfl, show finR [(11, 12)] R7 1 = R7 1 from rfl, show finR [(11, 12)] R7 2 = R7 2 from rfl, show finR [(11, 12)] R7 3 = R7 3 from rfl, show finR [(11, 12)] R7 4 = R7 4 from rfl, show finR [(11, 12)] R7 5 = R7 5 from rfl, show finR [(11, 12)] R7 6 = R7 6 from rfl, show finR [(11, 12)] R7 7 = R7 7 from rfl, show finR [(11, 12)] R7 8 = R7 8 from rfl, show finR [(11, 12)] R7 9 = R7 9 from rfl, show finR [(11, 12)] R7 10 = R7 10 from rfl, show finR [(11, 12)] R7 11 = [] from rfl, show finR [(11, 12)] R7 12 = R7 12 from rfl, r0, r1, r2, r3, r4, r5, r6, r7, r8, r9, r10, r12, List.nil_append, List.append_nil, List.cons_append] at hst
   refine RunL.slots (sl := [(1, .pointer (some ⟨_, _, none⟩)), (3, .slice _ _ _), (4, .int .i64 _), (5, .pointer (some ⟨_, _, none⟩)), (26, .int .i64 _)]) ⟨(hs5 1 rfl).trans rfl, (hs5 3 rfl).trans rfl, (hs5 4 rfl).trans rfl, h5_, h26_, trivial⟩ ?_
   clear hs5 hd6 hr8 tab3
   refine AI rfl <| NR <| ML rfl <| CN <| Op1.loadA (vs := [.int .u16 _, .slice _ _ _]) ty45 rfl rfl rfl (cells_of_obj (n := 2) (hst.objL (.tail _ (.head _))) _ rfl) <| CN (Op1.buildSl (z0 := [.int .u16 0, .slice none 0 0]) hst ty67 ty45 rfl rfl (by kernel_rfl) (.c (v := .agg #[.int .u16 _, .slice _ _ _]) rfl (h := .nil)) fun w b29 hst => ?_)
   refine CN (Op1.append (news := [.int .u16 _, .slice _ _ _]) hst ty67 ty45 rfl rfl (.there (.there (.there (.there (.here))))) rfl rfl rfl (cells_of_obj (n := 2) (hst.objL (.head _)) _ rfl) rfl rfl (by omega) fun w ao9 cp10 hst => ?_)
   replace hst := hst.drop (.there (.here))
   refine AL rfl <| NL <| run_inBlock <| Run.forget [(1, .pointer (some ⟨_, _, none⟩)), (3, .slice _ _ _), (4, .int .i64 _)] ⟨rfl, rfl, rfl, trivial⟩ fun f => RG <| MI rfl <| CN <| Op1.addN rfl rfl rfl (wrap_i64 (by omega) (by omega)) <| AI rfl <| NL <| run_inLoop ?_
   replace hst := hst.pick (.cons (.there (.here)) (.cons (.there (.there (.here))) (.cons (.here) (.cons (.here) (.cons (.here) .nil)))))
   replace hst := hst.starSnoc
   have e1 : done.length + 1 = (done ++ [(⟨rop, ro, rc, rws⟩ : RawP)]).length := by simp
   have e2 : done.flatMap rawC ++ [.int .u16 rop, .slice ro rws.length rc] = (done ++ [(⟨rop, ro, rc, rws⟩ : RawP)]).flatMap rawC := by simp
   have e3 : done.map (Res.oword 23) ++ [Res.sl ro rws.length rc 23 1 (rws.flatMap u32C)] = (done ++ [(⟨rop, ro, rc, rws⟩ : RawP)]).map (Res.oword 23) := by simp
   rw [e1, e2, e3] at hst
   have hI2 : (done ++ [(⟨rop, ro, rc, rws⟩ : RawP)]).map RawP.L = rawsF bd ((l.map InstP.L).take (i + 1)) := by rw [List.map_append, hJ.2, rawsF_take (by omega), hR]; rfl
   replace hst := hst.pick (.cons (.here) (.cons (.here) (.cons (.there (.here)) .nil)))
   exact ih1 ((i + 1, ao9, cp10, done ++ [(⟨rop, ro, rc, rws⟩ : RawP)])) _ w (by (try dsimp only); omega) hst (⟨by (try dsimp only); omega, hI2⟩) ⟨rfl, trivial⟩ ⟨(by (try dsimp only); rw [← e1]; rfl), (congrArg (Value.int .i64) (by (try dsimp only); omega)), trivial⟩
 obtain rfl : i = l.length := by omega
 have hd : done.map RawP.L = rawsF bd (l.map InstP.L) := by have := hJ.2; rwa [show (l.map InstP.L).take l.length = (l.map InstP.L) from List.take_of_length_le (by rw [List.length_map]; exact Nat.le_refl _)] at this
 have hgood := encode_good (gn := gn) hS1
 have hwl := encode_len (gn := gn) hS1
 obtain ⟨ws, hws⟩ : ∃ ws, writeW gn bd (rawsF bd (l.map InstP.L)) = ws := ⟨_, rfl⟩
 rw [hws] at hgood hwl
 have hdl := raws_len hd
 have hrm : ∀ r ∈ done, r.ws.length ≤ 35184372088832 ∧ 0 ≤ r.op ∧ r.op < 65536 := fun r hr => by
   obtain ⟨i, hi, ho, hlen⟩ := raws_mem hd hgood.2.2.2.1 hr
   exact ⟨by omega, by rw [ho]; exact hop i hi, by rw [ho]; exact hop2 i hi⟩
 refine run_exit (id := 0) rfl <| SQ ?_
 replace hst := hst.pick (.cons (.there (.here)) (.cons (.here) (.cons (.here) .nil)))
 replace hst := St.starCons hst
 refine RG <| CN <| Op1.fieldAddr fld26_0 rfl <| CN <| Op1.load1 (v := .int .u32 _) ty23 rfl rfl (hst.cellL (.tail _ (.head _)) rfl) <| CN <| Op1.fieldAddr fld26_1 rfl <| CN <| Op1.load1 (v := .int .u32 _) ty23 rfl rfl (hst.cellL (.tail _ (.head _)) rfl) <| CN (Op1.buildStruct ty66 stf66 (.c (v := .int .u32 _) rfl (h := (.c (v := .int .u32 _) rfl (h := .nil)))) ?_)
 refine ML rfl <| CN (Op1.call2 (v1 := .agg #[.int .u32 _, .int .u32 _]) (v2 := .slice _ _ _) ent74 rfl rfl rfl ((R3ref2_Write2 gn bd done _ _ (by rw [hd]; exact hgood.2.1) _ (Res.rraws_of_oraws (hst.hL _ (.head _))) (by omega) (fun r hr => (hrm r hr).1) (fun r hr => (hrm r hr).2)).mono fun v w hp => ?_))
 obtain ⟨aW, cW, rfl, hp⟩ := hp
 replace hst : St _ _ (_ :: _) _ _ := hst.call0 hp
 clear hp
 refine CN <| Op1.move (v := .tuple #[.slice _ _ _, .agg #[.int .i64 _, .int .i64 _]]) rfl <| CN <| Op1.extract (v := .slice _ _ _) rfl rfl <| CN <| Op1.extract (v := .agg #[.int .i64 _, .int .i64 _]) rfl rfl <| CN <| Op1.alloc hst ty29 fun w b8 hst => AL rfl <| CN (SO (v := .agg #[.int .i64 _, .int .i64 _]) hst ty29 rfl rfl (.here) fun w hst => ?_)
 refine NSR <| ML rfl <| AL rfl <| NL <| run_ret1 Try.func44 rfl (TP (v := .slice _ _ _) rfl) ?_
 replace hst := hst.pick (.cons (.there (.here)) .nil)
 rw [hws]
 exact ⟨aW, cW, rfl, hst.noD⟩
theorem R3ref4_Shape2 (gn bd : Int) (l : List InstP) (ao : Option Addr) (cp : Nat) {se sa : Int} (hS : shapeF bd (l.map InstP.L) = (se, sa)) (w : World) (hA : (Res.rmod ao l).holds w) (hl : l.length ≤ 3000000000000) (hop : ∀ i ∈ l, 0 ≤ i.op) (hsm : ∀ i ∈ l, (i.args.map argRoom).sum ≤ 900000000) (hla : ∀ i ∈ l, ∀ a ∈ i.args, a.s.length ≤ 100000000000) : Ret Try.prog 42 #[.agg #[.int .u32 gn, .int .u32 bd, .slice ao l.length cp]] w (fun v w' => v = .agg #[.int .i64 se, .int .i64 sa] ∧ St w NoM [] [] w') := by
 have h := R3ref4_Shape gn bd l ao cp w hA hl hop hsm hla
 rw [hS] at h; exact h
theorem R3ref4_Encode (gn bd : Int) (l : List InstP) (ao : Option Addr) (cp : Nat) (w : World) (hA : (Res.rmod ao l).holds w) (hl : l.length ≤ 3000000000000) (hop : ∀ i ∈ l, 0 ≤ i.op) (hsm : ∀ i ∈ l, (i.args.map argRoom).sum ≤ 900000000) (hla : ∀ i ∈ l, ∀ a ∈ i.args, a.s.length ≤ 100000000000) (hop2 : ∀ i ∈ l, i.op < 65536) (hgn : 0 ≤ gn ∧ gn < 4294967296) (hbd : 0 ≤ bd ∧ bd < 4294967296) (hok : ∀ i ∈ (l.map InstP.L), i.Okay) : Ret Try.prog 20 #[.agg #[.int .u32 gn, .int .u32 bd, .slice ao l.length cp]] w (fun v w' => ∃ ro rc, v = .tuple #[.slice ro (encodeF gn bd (l.map InstP.L)).1.length rc, .agg #[.int .i64 (encodeF gn bd (l.map InstP.L)).2.1, .int .i64 (encodeF gn bd (l.map InstP.L)).2.2]] ∧ St w NoM [Res.sl ro (encodeF gn bd (l.map InstP.L)).1.length rc 5 1 ((encodeF gn bd (l.map InstP.L)).1.flatMap byC)] [] w') := by
 refine Ret.enter (args := [.agg #[.int .u32 gn, .int .u32 bd, .slice ao l.length cp]]) Try.func20 rfl rfl rfl ?_
 have hst : St w NoM [] [Res.rmod ao l] w := St.init_D hA
 clear hA
 obtain ⟨se, sa, hS⟩ : ∃ se sa, shapeF bd (l.map InstP.L) = (se, sa) := ⟨_, _, rfl⟩
 refine SR <| CN <| Op1.box (v := .agg #[.int .u32 _, .int .u32 _, .slice _ _ _]) hst rfl rfl fun w b1 hst => AL rfl <| CN <| Op1.alloc hst ty29 fun w b3 hst => NSR <| CN <| Op1.loadA (vs := [.int .u32 _, .int .u32 _, .slice _ _ _]) ty26 rfl rfl rfl (cells_of_obj (n := 3) (hst.objL (.tail _ (.head _))) _ rfl) <| CN <| Op1.call1 (v1 := .agg #[.int .u32 _, .int .u32 _, .slice _ _ _]) ent42 rfl rfl <| Ret.det (R3ref4_Shape2 gn bd l _ _ hS _ (hst.hD _ (.head _)) hl hop hsm hla) hst fun w hst => CN <| Op1.alloc hst ty29 fun w b4 hst => CN (SO (v := .agg #[.int .i64 _, .int .i64 _]) hst ty29 rfl rfl (.here) fun w hst => ?_)
 refine NL <| SQ <| SR <| CN <| Op1.fieldAddr fld29_0 rfl <| CN <| Op1.load1 (v := .int .i64 _) ty27 rfl rfl (hst.cellL (.head _) rfl) <| CN <| Op1.neq rfl rfl <| NL <| run_cond_dec rfl (fun g1 => ?_) (fun g1 => ?_)
 · skip
   refine SQ <| RunD.start [] hst (bs := [0, 0, 3]) (ds := [some 10, some 2, none]) ⟨by kernel_rfl, by kernel_rfl, by kernel_rfl⟩ (fun tab2 => ?_)
   refine RunD.op (det _) tab2 1 (fun f' L' w' hc => Op1.loadA (vs := [.int .i64 _, .int .i64 _]) ty29 rfl (hc.old (v := .pointer (some ⟨_, _, none⟩)) rfl rfl rfl) rfl (cells_of_obj (n := 2) (hc.st.objL (List.mem_append_right _ (.head _))) _ rfl) ⟨[], ⟨rfl, rfl⟩, hc.st⟩) <| RunD.op (det _) tab2 2 (fun f' L' w' hc => Op1.assign (v := .slice _ _ _) rfl ⟨[], ⟨rfl, rfl⟩, hc.st⟩) <| RunD.fin followsMixed tab2 hst rfl (fun f3 w R6 hs4 hd5 hr7 hst => ?_)
   obtain ⟨h10_, r0⟩ := hd5 0 10 rfl rfl
   obtain ⟨h2_, r1⟩ := hd5 1 2 rfl rfl
   simp only [show List.range 2 = [0, 1] from rfl, List.flatMap_cons, List.flatMap_nil, List.map_cons, List.map_nil, r0, r1, List.nil_append, List.append_nil, List.cons_append] at hst
   refine RunL.slots (sl := [(2, .slice _ _ _), (3, .pointer (some ⟨_, _, none⟩)), (10, .agg #[.int .i64 _, .int .i64 _])]) ⟨h2_, (hs4 3 rfl).trans rfl, h10_, trivial⟩ ?_
   clear hs4 hd5 hr7 tab2
   refine CN (SO (v := .agg #[.int .i64 _, .int .i64 _]) hst ty29 rfl rfl (.there (.here)) fun w hst => ?_)
   refine NL <| run_ret2 Try.func20 rfl (TP (v := .slice _ _ _) rfl) (RV.cellA (vs := [.int .i64 _, .int .i64 _]) rfl ty29 rfl rfl (cells_of_obj (n := 2) (hst.objL (.tail _ (.head _))) _ rfl)) ?_
   replace hst := hst.pick .nil
   have hE := encode_bad (gn := gn) (bound := bd) (l := (l.map InstP.L)) (by rw [hS]; exact g1)
   rw [hS] at hE
   rw [hE]
   exact ⟨none, 0, rfl, (hst.pushNil 5 1).noD⟩
 have hS1 : (shapeF bd (l.map InstP.L)).1 = 0 := by rw [hS]; (try dsimp only); omega
 have hgood := encode_good (gn := gn) hS1
 have hwl := encode_len (gn := gn) hS1
 have hwd := writeW_wd (gn := gn) hgn hbd hgood.2.2.2.1 hok
 refine run_skip <| SR <| CN <| Op1.loadA (vs := [.int .u32 _, .int .u32 _, .slice _ _ _]) ty26 rfl rfl rfl (cells_of_obj (n := 3) (hst.objL (.tail _ (.tail _ (.head _)))) _ rfl) <| CN (Op1.call1 (v1 := .agg #[.int .u32 _, .int .u32 _, .slice _ _ _]) ent44 rfl rfl ((R3ref4_Words gn bd l _ _ _ (hst.hD _ (.head _)) hl hop hsm hla hop2 hS1).mono fun v w hp => ?_))
 obtain ⟨aW, cW, rfl, hp⟩ := hp
 replace hst : St _ _ (_ :: _) _ _ := hst.call0 hp
 clear hp
 refine CN (Op1.call1 (v1 := .slice _ _ _) ent43 rfl rfl ((R3ref1_Join _ hwd _ _ _ (Res.rs_of_sl (hst.hL _ (.head _))) (by omega)).mono fun v w hp => ?_))
 obtain ⟨aB, cB, rfl, hp⟩ := hp
 replace hst : St _ _ (_ :: _) _ _ := hst.call0 hp
 clear hp
 refine CN (Op1.buildStruct ty29 stf29 .nil ?_)
 refine AL rfl <| CN (SO (v := .agg #[.int .i64 _, .int .i64 _]) hst ty29 rfl rfl (.there (.there (.there (.here)))) fun w hst => ?_)
 refine NL <| run_ret2 Try.func20 rfl (TP (v := .slice _ _ _) rfl) (RV.cellA (vs := [.int .i64 _, .int .i64 _]) rfl ty29 rfl rfl (cells_of_obj (n := 2) (hst.objL (.tail _ (.tail _ (.tail _ (.head _))))) _ rfl)) ?_
 replace hst := hst.pick (.cons (.here) .nil)
 rw [hgood.1]
 exact ⟨aB, cB, rfl, hst.noD⟩
end Go.SK
namespace Go.SK
open Go Go.Proofs
theorem ent20 : Enters Try.prog 20 := ⟨Try.f20, _, Try.func20, by kernel_rfl, rfl⟩
end Go.SK
namespace Go.SK
open Go Go.Proofs
open Go.RowKit
theorem R3ref4_EncodeD {gn bd se sa : Int} {l : List InstP} {bs : List UInt8} (hE : encodeF gn bd (l.map InstP.L) = (bs, (se, sa))) (ao : Option Addr) (cp : Nat) (w : World) (hA : (Res.rmod ao l).holds w) (hs : Small l) (hgn : 0 ≤ gn ∧ gn < 4294967296) (hbd : 0 ≤ bd ∧ bd < 4294967296) (hok : ∀ i ∈ l.map InstP.L, i.Okay) : Ret Try.prog 20 #[.agg #[.int .u32 gn, .int .u32 bd, .slice ao l.length cp]] w (fun v w' => ∃ ro rc, v = .tuple #[.slice ro bs.length rc, .agg #[.int .i64 se, .int .i64 sa]] ∧ St w NoM [Res.sl ro bs.length rc 5 1 (bs.flatMap byC)] [] w') := by
 have h := R3ref4_Encode gn bd l ao cp w hA hs.len hs.op hs.sum hs.txt hs.op2 hgn hbd hok
 rw [hE] at h; exact h
theorem R3law_CodeEncodes (ga ba : Int) (l : List InstP) (ao : Option Addr) (cp : Nat) (w : World) (hA : (Res.rmod ao l).holds w) (hs : Small l) (hgn : 0 ≤ ga ∧ ga < 4294967296) (hbd : 0 ≤ ba ∧ ba < 4294967296) (hok : ∀ i ∈ l.map InstP.L, i.Okay) : Ret Try.prog 4 #[.agg #[.int .u32 ga, .int .u32 ba, .slice ao l.length cp]] w (fun v w' => v = .bool true ∧ St w NoM [] [] w') := by
 refine Ret.enter (args := [.agg #[.int .u32 ga, .int .u32 ba, .slice ao l.length cp]]) Try.func4 rfl rfl rfl ?_
 have hst : St w NoM [] [Res.rmod ao l] w := St.init_D hA
 clear hA
 obtain ⟨bs, se, sa, hE⟩ : ∃ bs se sa, encodeF ga ba (l.map InstP.L) = (bs, (se, sa)) := ⟨_, _, _, rfl⟩
 have hsh := enc_shape hE
 refine SR <| CN <| Op1.box (v := .agg #[.int .u32 _, .int .u32 _, .slice _ _ _]) hst rfl rfl fun w b1 hst => AB rfl <| NSR <| CN <| Op1.loadA (vs := [.int .u32 _, .int .u32 _, .slice _ _ _]) ty26 rfl rfl rfl (cells_of_obj (n := 3) (hst.objL (.head _)) _ rfl) <| CN (Op1.call1 (v1 := .agg #[.int .u32 _, .int .u32 _, .slice _ _ _]) ent20 rfl rfl ((R3ref4_EncodeD hE _ _ _ (hst.hD _ (.head _)) hs hgn hbd hok).mono fun v w hp => ?_))
 obtain ⟨aR, rR, rfl, hp⟩ := hp
 replace hst : St _ _ (_ :: _) _ _ := hst.call0 hp
 clear hp
 refine CN <| Op1.move (v := .tuple #[.slice _ _ _, .agg #[.int .i64 _, .int .i64 _]]) rfl <| CN <| Op1.extract (v := .slice _ _ _) rfl rfl <| CN <| Op1.extract (v := .agg #[.int .i64 _, .int .i64 _]) rfl rfl <| CN <| Op1.alloc hst ty29 fun w b4 hst => AL rfl <| CN (SO (v := .agg #[.int .i64 _, .int .i64 _]) hst ty29 rfl rfl (.here) fun w hst => ?_)
 refine NSR <| CN <| Op1.loadA (vs := [.int .u32 _, .int .u32 _, .slice _ _ _]) ty26 rfl rfl rfl (cells_of_obj (n := 3) (hst.objL (.tail _ (.tail _ (.head _)))) _ rfl) <| CN (Op1.call1 (v1 := .agg #[.int .u32 _, .int .u32 _, .slice _ _ _]) ent21 rfl rfl ((R3md_CopyModule _ _ l _ _ _ (hst.hD _ (.head _)) hs.lenC hs.laC).mono fun v w hp => ?_))
 obtain ⟨bM1, dM1, rfl, hdM1, hp⟩ := hp
 replace hst : St _ _ (_ :: _) _ _ := hst.call0 hp
 clear hp
 refine CN <| Op1.alloc hst ty26 fun w b5 hst => CN (SO (v := .agg #[.int .u32 _, .int .u32 _, .slice _ _ _]) hst ty26 rfl rfl (.here) fun w hst => ?_)
 refine NSR <| CN <| Op1.loadA (vs := [.int .u32 _, .int .u32 _, .slice _ _ _]) ty26 rfl rfl rfl (cells_of_obj (n := 3) (hst.objL (.head _)) _ rfl) <| CN (Op1.call1 (v1 := .agg #[.int .u32 _, .int .u32 _, .slice _ _ _]) ent22 rfl rfl ((R3cd_EncodeD (bs := bs) (se := se) (sa := sa) (by rw [hdM1]; exact hE) _ _ _ (Res.rmod_of_omod (hst.hL _ (.tail _ (.head _)))) (Small.of hdM1 hs)).mono fun v w hp => ?_))
 obtain ⟨asX, rsX, rfl, hp⟩ := hp
 replace hst : St _ _ (_ :: _) _ _ := hst.call0 hp
 clear hp
 refine CN <| Op1.move (v := .tuple #[.slice _ _ _, .agg #[.int .i64 _, .int .i64 _]]) rfl <| CN <| Op1.extract (v := .slice _ _ _) rfl rfl <| CN <| Op1.extract (v := .agg #[.int .i64 _, .int .i64 _]) rfl rfl <| CN <| Op1.alloc hst ty29 fun w b7 hst => AL rfl <| CN (SO (v := .agg #[.int .i64 _, .int .i64 _]) hst ty29 rfl rfl (.here) fun w hst => ?_)
 refine NL <| Run.forget [(1, .pointer (some ⟨_, _, none⟩)), (3, .slice _ _ _), (4, .pointer (some ⟨_, _, none⟩)), (5, .pointer (some ⟨_, _, none⟩)), (6, .slice _ _ _), (7, .pointer (some ⟨_, _, none⟩))] ⟨rfl, rfl, rfl, rfl, rfl, rfl, trivial⟩ fun f => SQ ?_
 have hb9 : bs.length ≤ 9000000000000000000 := enc_short hE
 refine RunD.start [] hst (bs := [0, 0, 3, 7, 15, 15, 63, 127, 255, 511, 1023, 511, 4095, 8191, 16383, 32767, 32767, 131071, 262143, 524287, 1048575, 2097151, 4194303]) (ds := [some 20, some 21, some 22, some 23, some 24, some 25, some 26, some 27, some 28, some 29, some 30, some 31, some 32, some 33, some 34, some 35, some 36, some 37, some 38, some 39, some 40, some 41, some 2]) ⟨by kernel_rfl, by kernel_rfl, by kernel_rfl⟩ (fun tab1 => ?_)
 refine RunD.op (det _) tab1 1 (fun f' L' w' hc => Op1.loadA (vs := [.int .i64 _, .int .i64 _]) ty29 rfl (hc.old (v := .pointer (some ⟨_, _, none⟩)) rfl rfl rfl) rfl (cells_of_obj (n := 2) (hc.st.objL (List.mem_append_right _ (.head _))) _ rfl) ⟨[], ⟨rfl, rfl⟩, hc.st⟩) <| RunD.op (det _) tab1 2 (fun f' L' w' hc => Op1.loadA (vs := [.int .i64 _, .int .i64 _]) ty29 rfl (hc.old (v := .pointer (some ⟨_, _, none⟩)) rfl rfl rfl) rfl (cells_of_obj (n := 2) (hc.st.objL (List.mem_append_right _ (.tail _ (.tail _ (.tail _ (.tail _ (.head _))))))) _ rfl) ⟨[], ⟨rfl, rfl⟩, hc.st⟩) <| RunD.op (det _) tab1 3 (fun f' L' w' hc => Op1.eqlA (xs := [.int .i64 _, .int .i64 _]) (ys := [.int .i64 _, .int .i64 _]) (hc.det (j := 0) rfl rfl rfl rfl) (hc.det (j := 1) rfl rfl rfl rfl) (by kernel_rfl) (EqOk.struct Try.underlying29 (by kernel_rfl) (.cons (by decide) (PartOk.one ty27 rfl rfl) (PartOk.one ty27 rfl rfl) (EqOk.int ty27) (.cons (by decide) (PartOk.one ty3 rfl rfl) (PartOk.one ty3 rfl rfl) (EqOk.int ty3) .nil))) ⟨[], ⟨rfl, rfl⟩, hc.st⟩) <| RunD.op (det _) tab1 4 (fun f' L' w' hc => Op1.move (v := .bool _) (hc.det (j := 2) rfl rfl rfl rfl) ⟨[], ⟨rfl, rfl⟩, hc.st⟩) <| RunD.split (j := 3) rfl (fun g2 => ?_) (fun g2 => ?_)
 · skip
   refine RunD.take (det _) tab1 5 rfl (fun f' L' w' hc => (hc.det (j := 3) rfl rfl rfl rfl).trans (congrArg Value.bool g2)) (fun f' L' w' hc => Op1.move (v := .slice _ _ _) (hc.old (v := .slice _ _ _) rfl rfl rfl) ⟨[], ⟨rfl, rfl⟩, hc.st⟩) <| RunD.take (det _) tab1 6 rfl (fun f' L' w' hc => (hc.det (j := 3) rfl rfl rfl rfl).trans (congrArg Value.bool g2)) (fun f' L' w' hc => Op1.move (v := .slice _ _ _) (hc.old (v := .slice _ _ _) rfl rfl rfl) ⟨[], ⟨rfl, rfl⟩, hc.st⟩) <| RunD.take (det _) tab1 7 rfl (fun f' L' w' hc => (hc.det (j := 3) rfl rfl rfl rfl).trans (congrArg Value.bool g2)) (fun f' L' w' hc => Op1.call2 (v1 := .slice _ _ _) (v2 := .slice _ _ _) ent17 rfl (hc.det (j := 4) rfl rfl rfl rfl) (hc.det (j := 5) rfl rfl rfl rfl) ((R3wd_Bytes bs bs _ _ _ _ _ (Res.rs_of_sl (hc.st.hL _ (List.mem_append_right _ (.tail _ (.head _))))) (Res.rs_of_sl (hc.st.hL _ (List.mem_append_right _ (.tail _ (.tail _ (.tail _ (.tail _ (.tail _ (.head _))))))))) hb9).mono fun v w hp => ⟨[], ⟨hp.1.trans (congrArg Value.bool (decide_eq_true rfl)), rfl⟩, hc.st.keepc hp.2⟩)) <| RunD.op (det _) tab1 8 (fun f' L' w' hc => Op1.pickT (u := .bool _) (((hc.det (j := 3) rfl rfl rfl rfl)).trans (congrArg Value.bool g2)) (hc.det (j := 6) rfl rfl rfl rfl) ⟨[], ⟨rfl, rfl⟩, hc.st⟩) <| RunD.op (det _) tab1 9 (fun f' L' w' hc => Op1.move (v := .bool _) (hc.det (j := 7) rfl rfl rfl rfl) ⟨[], ⟨rfl, rfl⟩, hc.st⟩) <| RunD.take (det _) tab1 10 rfl (fun f' L' w' hc => (hc.det (j := 8) rfl rfl rfl rfl).trans (congrArg Value.bool (rfl : true = _))) (fun f' L' w' hc => Op1.loadA (vs := [.int .u32 _, .int .u32 _, .slice _ _ _]) ty26 rfl (hc.old (v := .pointer (some ⟨_, _, none⟩)) rfl rfl rfl) rfl (cells_of_obj (n := 3) (hc.st.objL (List.mem_append_right _ (.tail _ (.tail _ (.head _))))) _ rfl) ⟨[], ⟨rfl, rfl⟩, hc.st⟩) <| RunD.take (det _) tab1 11 rfl (fun f' L' w' hc => (hc.det (j := 8) rfl rfl rfl rfl).trans (congrArg Value.bool (rfl : true = _))) (fun f' L' w' hc => Op1.call1 (v1 := .agg #[.int .u32 _, .int .u32 _, .slice _ _ _]) ent23 rfl (hc.det (j := 9) rfl rfl rfl rfl) ((R3cd_ShapeD (se := se) (sa := sa) (by rw [hdM1]; exact hsh.1) _ _ _ (Res.rmod_of_omod (hc.st.hL _ (List.mem_append_right _ (.tail _ (.tail _ (.tail _ (.head _))))))) (Small.of hdM1 hs)).mono fun v w hp => ⟨[], ⟨hp.1, rfl⟩, hc.st.keepc hp.2⟩)) <| RunD.take (det _) tab1 12 rfl (fun f' L' w' hc => (hc.det (j := 8) rfl rfl rfl rfl).trans (congrArg Value.bool (rfl : true = _))) (fun f' L' w' hc => Op1.loadA (vs := [.int .i64 _, .int .i64 _]) ty29 rfl (hc.old (v := .pointer (some ⟨_, _, none⟩)) rfl rfl rfl) rfl (cells_of_obj (n := 2) (hc.st.objL (List.mem_append_right _ (.tail _ (.tail _ (.tail _ (.tail _ (.head _))))))) _ rfl) ⟨[], ⟨rfl, rfl⟩, hc.st⟩) <| RunD.take (det _) tab1 13 rfl (fun f' L' w' hc => (hc.det (j := 8) rfl rfl rfl rfl).trans (congrArg Value.bool (rfl : true = _))) (fun f' L' w' hc => Op1.eqlA (xs := [.int .i64 _, .int .i64 _]) (ys := [.int .i64 _, .int .i64 _]) (hc.det (j := 10) rfl rfl rfl rfl) (hc.det (j := 11) rfl rfl rfl rfl) (by kernel_rfl) (EqOk.struct Try.underlying29 (by kernel_rfl) (.cons (by decide) (PartOk.one ty27 rfl rfl) (PartOk.one ty27 rfl rfl) (EqOk.int ty27) (.cons (by decide) (PartOk.one ty3 rfl rfl) (PartOk.one ty3 rfl rfl) (EqOk.int ty3) .nil))) ⟨[], ⟨rfl, rfl⟩, hc.st⟩) <| RunD.op (det _) tab1 14 (fun f' L' w' hc => Op1.pickT (u := .bool _) (((hc.det (j := 8) rfl rfl rfl rfl)).trans (congrArg Value.bool (rfl : true = _))) (hc.det (j := 12) rfl rfl rfl rfl) ⟨[], ⟨rfl, rfl⟩, hc.st⟩) <| RunD.op (det _) tab1 15 (fun f' L' w' hc => Op1.move (v := .bool _) (hc.det (j := 13) rfl rfl rfl rfl) ⟨[], ⟨rfl, rfl⟩, hc.st⟩) <| RunD.split (j := 14) rfl (fun g3 => ?_) (fun g3 => ?_)
   · skip
     refine RunD.take (det _) tab1 16 rfl (fun f' L' w' hc => (hc.det (j := 14) rfl rfl rfl rfl).trans (congrArg Value.bool g3)) (fun f' L' w' hc => Op1.loadA (vs := [.int .u32 _, .int .u32 _, .slice _ _ _]) ty26 rfl (hc.old (v := .pointer (some ⟨_, _, none⟩)) rfl rfl rfl) rfl (cells_of_obj (n := 3) (hc.st.objL (List.mem_append_right _ (.tail _ (.tail _ (.head _))))) _ rfl) ⟨[], ⟨rfl, rfl⟩, hc.st⟩) <| RunD.take (det _) tab1 17 rfl (fun f' L' w' hc => (hc.det (j := 14) rfl rfl rfl rfl).trans (congrArg Value.bool g3)) (fun f' L' w' hc => Op1.loadA (vs := [.int .u32 _, .int .u32 _, .slice _ _ _]) ty26 rfl (hc.old (v := .pointer (some ⟨_, _, none⟩)) rfl rfl rfl) rfl (cells_of_obj (n := 3) (hc.st.objL (List.mem_append_right _ (.tail _ (.tail _ (.tail _ (.tail _ (.tail _ (.tail _ (.head _))))))))) _ rfl) ⟨[], ⟨rfl, rfl⟩, hc.st⟩) <| RunD.fin followsMixed tab1 hst rfl (fun f4 w R7 hs5 hd6 hr8 hst => ?_)
     obtain ⟨h20_, r0⟩ := hd6 0 20 rfl rfl
     obtain ⟨h21_, r1⟩ := hd6 1 21 rfl rfl
     obtain ⟨h22_, r2⟩ := hd6 2 22 rfl rfl
     obtain ⟨h23_, r3⟩ := hd6 3 23 rfl rfl
     obtain ⟨h24_, r4⟩ := hd6 4 24 rfl rfl
     obtain ⟨h25_, r5⟩ := hd6 5 25 rfl rfl
     obtain ⟨h26_, r6⟩ := hd6 6 26 rfl rfl
     obtain ⟨h27_, r7⟩ := hd6 7 27 rfl rfl
     obtain ⟨h28_, r8⟩ := hd6 8 28 rfl rfl
     obtain ⟨h29_, r9⟩ := hd6 9 29 rfl rfl
     obtain ⟨h30_, r10⟩ := hd6 10 30 rfl rfl
     obtain ⟨h31_, r11⟩ := hd6 11 31 rfl rfl
     obtain ⟨h32_, r12⟩ := hd6 12 32 rfl rfl
     obtain ⟨h33_, r13⟩ := hd6 13 33 rfl rfl
     obtain ⟨h34_, r14⟩ := hd6 14 34 rfl rfl
     obtain ⟨h35_, r15⟩ := hd6 15 35 rfl rfl
     obtain ⟨h36_, r16⟩ := hd6 16 36 rfl rfl
     simp only [show List.range 17 = [0, 1, 2, 3, 4, 5, 6, 7, 8, 9, 10, 11, 12, 13, 14, 15, 16] from rfl, List.flatMap_cons, List.flatMap_nil, List.map_cons, List.map_nil, r0, r1, r2, r3, r4, r5, r6, r7, r8, r9, r10, r11, r12, r13, r14, r15, r16, List.nil_append, List.append_nil, List.cons_append] at hst
     refine RunL.slots (sl := [(34, .bool _), (35, .agg #[.int .u32 _, .int .u32 _, .slice _ _ _]), (36, .agg #[.int .u32 _, .int .u32 _, .slice _ _ _])]) ⟨h34_, h35_, h36_, trivial⟩ ?_
     clear hs5 hd6 hr8 tab1
     refine TK (t := 34) rfl (congrArg Value.bool g3) (Op1.call2 (v1 := .agg #[.int .u32 _, .int .u32 _, .slice _ _ _]) (v2 := .agg #[.int .u32 _, .int .u32 _, .slice _ _ _]) ent16 rfl rfl rfl ((R3md_Module _ _ _ _ dM1 l _ _ _ _ _ (Res.rmod_of_omod (hst.hL _ (.tail _ (.tail _ (.tail _ (.head _)))))) (hst.hD _ (.head _)) (Small.of hdM1 hs).len9 (Small.of hdM1 hs).la9).mono fun v w hp => ?_))
     obtain ⟨he, hp⟩ := hp
     replace he := he.trans (congrArg Value.bool (sameM_self hdM1))
     subst he
     replace hst := hst.keepc hp
     clear hp
     refine CN <| Op1.pickT (u := .bool _) (congrArg Value.bool g3) rfl <| MB rfl <| TK (t := 39) rfl (congrArg Value.bool (rfl : true = _)) (Op1.call0  ent19 rfl  ((R3law_awake _).mono fun v w hp => ?_))
     obtain ⟨rfl, hp⟩ := hp
     replace hst := hst.keepc hp
     clear hp
     refine CN <| Op1.pickT (u := .bool _) (congrArg Value.bool (rfl : true = _)) rfl <| AB rfl <| NL <| run_ret1 Try.func4 rfl (TP (v := .bool _) rfl) ?_
     exact ⟨rfl, hst.pure⟩
   exfalso
   simp at g3
 exfalso
 simp at g2
end Go.SK
