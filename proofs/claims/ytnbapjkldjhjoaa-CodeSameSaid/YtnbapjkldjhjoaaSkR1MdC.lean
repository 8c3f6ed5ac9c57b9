/-
  Walks of functions, and of the laws over them.
-/
import Derived.Test.YtnbapjkldjhjoaaSkMdP
import Derived.Test.YtnbapjkldjhjoaaSkR1MdB
import Derived.Test.YtnbapjkldjhjoaaSkR1MdCF
set_option linter.unusedVariables false
set_option linter.unusedSimpArgs false
namespace Go.SK
open Go Go.Proofs
open Go.RowKit
theorem R1law_CodeSame (ga ba : Int) (l : List InstP) (ao : Option Addr) (cp : Nat) (gb bb : Int) (m : List InstP) (bo : Option Addr) (cq : Nat) (w : World) (hA : (Res.rmod ao l).holds w) (hB : (Res.rmod bo m).holds w) (hl : l.length ≤ 3518437208884) (hla : ∀ i ∈ l, i.args.length ≤ 5864062014806) (hm : m.length ≤ 3518437208884) (hma : ∀ i ∈ m, i.args.length ≤ 5864062014806) : Ret Try.prog 7 #[.agg #[.int .u32 ga, .int .u32 ba, .slice ao l.length cp], .agg #[.int .u32 gb, .int .u32 bb, .slice bo m.length cq]] w (fun v w' => v = .bool true ∧ St w NoM [] [] w') := by
  refine Ret.enter (args := [.agg #[.int .u32 ga, .int .u32 ba, .slice ao l.length cp], .agg #[.int .u32 gb, .int .u32 bb, .slice bo m.length cq]]) Try.func7 rfl rfl rfl ?_
  have hst : St w NoM [] [Res.rmod ao l, Res.rmod bo m] w := St.init_Ds (fun d hd => by cases hd with | head => exact hA | tail _ hd => cases hd with | head => exact hB | tail _ h => cases h)
  clear hA hB
  have hl9 : l.length ≤ 9000000000000000000 := by omega
  have ha9 := insts_laL rfl hla
  refine run_seq ?_
  refine run_region ?_
  refine RunL.cons (Op1.box (v := .agg #[.int .u32 _, .int .u32 _, .slice _ _ _]) hst rfl rfl fun w b2 hst => ?_)
  refine RunL.cons (Op1.box (v := .agg #[.int .u32 _, .int .u32 _, .slice _ _ _]) hst rfl rfl fun w b3 hst => ?_)
  refine RunL.cons (Op1.assign (v := .bool _) rfl ?_)
  refine RunL.nil ?_
  refine run_seq ?_
  refine run_region ?_
  refine RunL.cons (Op1.loadA (vs := [.int .u32 _, .int .u32 _, .slice _ _ _]) ty37 rfl rfl rfl (cells_of_obj (n := 3) (hst.objL (.tail _ (.head _))) _ rfl) ?_)
  refine RunL.cons (Op1.call1 (v1 := .agg #[.int .u32 _, .int .u32 _, .slice _ _ _]) ent31 rfl rfl ((R1md_CopyModule _ _ _ _ _ _ (hst.hD _ (.head _)) hl hla).mono fun v w hp => ?_))
  obtain ⟨bA, lA, rfl, hdA, hp⟩ := hp
  replace hst : St _ _ (_ :: _) _ _ := hst.call0 hp
  clear hp
  have hnA := insts_len hdA
  have hgA : lA.length ≤ 9000000000000000000 := by omega
  have haA := insts_laL hdA hla
  refine RunL.cons (Op1.alloc hst ty37 fun w b5 hst => ?_)
  refine RunL.cons (Op1.store (v := .agg #[.int .u32 _, .int .u32 _, .slice _ _ _]) hst ty37 rfl rfl rfl rfl rfl (.here) (by repeat (first | exact Put.nil | apply Put.put | apply Put.skip)) fun w hst => ?_)
  refine RunL.nil ?_
  refine run_seq ?_
  refine run_region ?_
  refine RunL.cons (Op1.loadA (vs := [.int .u32 _, .int .u32 _, .slice _ _ _]) ty37 rfl rfl rfl (cells_of_obj (n := 3) (hst.objL (.tail _ (.tail _ (.head _)))) _ rfl) ?_)
  refine RunL.cons (Op1.call1 (v1 := .agg #[.int .u32 _, .int .u32 _, .slice _ _ _]) ent31 rfl rfl ((R1md_CopyModule _ _ _ _ _ _ (hst.hD _ (.tail _ (.head _))) hm hma).mono fun v w hp => ?_))
  obtain ⟨bB, lB, rfl, hdB, hp⟩ := hp
  replace hst : St _ _ (_ :: _) _ _ := hst.call0 hp
  clear hp
  have hnB := insts_len hdB
  have hgB : lB.length ≤ 9000000000000000000 := by omega
  have haB := insts_laL hdB hma
  refine RunL.cons (Op1.alloc hst ty37 fun w b6 hst => ?_)
  refine RunL.cons (Op1.store (v := .agg #[.int .u32 _, .int .u32 _, .slice _ _ _]) hst ty37 rfl rfl rfl rfl rfl (.here) (by repeat (first | exact Put.nil | apply Put.put | apply Put.skip)) fun w hst => ?_)
  refine RunL.nil ?_
  refine run_seq ?_
  refine RunD.start [] hst (bs := [0, 0, 3, 0, 0, 31, 63, 127, 255, 255, 1023, 255, 255, 8191, 16383, 32767, 65535, 131071, 131071, 393215, 1048575, 2097151, 4194303, 8388607, 8388607, 33554431, 67108863, 134217727, 268435455, 268435455, 1073741823, 2147483647, 4294967295]) (ds := [some 11, some 12, some 13, some 14, some 15, some 16, some 17, some 18, some 19, some 20, some 21, some 22, some 23, some 24, some 25, some 26, some 27, some 28, some 29, some 30, some 31, some 32, some 33, some 34, some 35, some 36, some 37, some 38, some 39, some 40, some 41, some 42, some 4]) ⟨by kernel_rfl, by kernel_rfl, by kernel_rfl⟩ (fun tab1 => ?_)
  refine RunD.op (det _) tab1 1 (fun f' L' w' hc => Op1.loadA (vs := [.int .u32 _, .int .u32 _, .slice _ _ _]) ty37 rfl (hc.old (v := .pointer (some ⟨_, _, none⟩)) rfl rfl rfl) rfl (cells_of_obj (n := 3) (hc.st.objL (List.mem_append_right _ (.tail _ (.tail _ (.head _))))) _ rfl) ⟨[], ⟨rfl, rfl⟩, hc.st⟩) ?_
  refine RunD.op (det _) tab1 2 (fun f' L' w' hc => Op1.loadA (vs := [.int .u32 _, .int .u32 _, .slice _ _ _]) ty37 rfl (hc.old (v := .pointer (some ⟨_, _, none⟩)) rfl rfl rfl) rfl (cells_of_obj (n := 3) (hc.st.objL (List.mem_append_right _ (.head _))) _ rfl) ⟨[], ⟨rfl, rfl⟩, hc.st⟩) ?_
  refine RunD.op (det _) tab1 3 (fun f' L' w' hc => Op1.call2 (v1 := .agg #[.int .u32 _, .int .u32 _, .slice _ _ _]) (v2 := .agg #[.int .u32 _, .int .u32 _, .slice _ _ _]) ent32 rfl (hc.det (j := 0) rfl rfl rfl rfl) (hc.det (j := 1) rfl rfl rfl rfl) ((R1md_Same _ _ _ _ _ _ _ _ _ _ _ (Res.rmod_of_omod (hc.st.hL _ (List.mem_append_right _ (.tail _ (.tail _ (.tail _ (.head _))))))) (Res.rmod_of_omod (hc.st.hL _ (List.mem_append_right _ (.tail _ (.head _))))) hgA haA).mono fun v w hp => ⟨[], ⟨hp.1.trans (congrArg Value.bool (sameM_congr hdA hdB)), rfl⟩, hc.st.keepc hp.2⟩)) ?_
  refine RunD.op (det _) tab1 4 (fun f' L' w' hc => Op1.loadA (vs := [.int .u32 _, .int .u32 _, .slice _ _ _]) ty37 rfl (hc.old (v := .pointer (some ⟨_, _, none⟩)) rfl rfl rfl) rfl (cells_of_obj (n := 3) (hc.st.objL (List.mem_append_right _ (.tail _ (.tail _ (.tail _ (.tail _ (.tail _ (.head _)))))))) _ rfl) ⟨[], ⟨rfl, rfl⟩, hc.st⟩) ?_
  refine RunD.op (det _) tab1 5 (fun f' L' w' hc => Op1.loadA (vs := [.int .u32 _, .int .u32 _, .slice _ _ _]) ty37 rfl (hc.old (v := .pointer (some ⟨_, _, none⟩)) rfl rfl rfl) rfl (cells_of_obj (n := 3) (hc.st.objL (List.mem_append_right _ (.tail _ (.tail _ (.tail _ (.tail _ (.head _))))))) _ rfl) ⟨[], ⟨rfl, rfl⟩, hc.st⟩) ?_
  refine RunD.op (det _) tab1 6 (fun f' L' w' hc => Op1.call2 (v1 := .agg #[.int .u32 _, .int .u32 _, .slice _ _ _]) (v2 := .agg #[.int .u32 _, .int .u32 _, .slice _ _ _]) ent33 rfl (hc.det (j := 3) rfl rfl rfl rfl) (hc.det (j := 4) rfl rfl rfl rfl) ((R1md_Module _ _ _ _ _ _ _ _ _ _ _ (hc.st.hD _ (.head _)) (hc.st.hD _ (.tail _ (.head _))) hl9 ha9).mono fun v w hp => ⟨[], ⟨hp.1, rfl⟩, hc.st.keepc hp.2⟩)) ?_
  refine RunD.op (det _) tab1 7 (fun f' L' w' hc => Op1.eqlB ty4 (hc.det (j := 2) rfl rfl rfl rfl) (hc.det (j := 5) rfl rfl rfl rfl) ⟨[], ⟨rfl, rfl⟩, hc.st⟩) ?_
  refine RunD.op (det _) tab1 8 (fun f' L' w' hc => Op1.move (v := .bool _) (hc.det (j := 6) rfl rfl rfl rfl) ⟨[], ⟨rfl, rfl⟩, hc.st⟩) ?_
  refine RunD.split (j := 7) rfl (fun g2 => ?_) (fun g2 => ?_)
  · skip
    refine RunD.take (det _) tab1 9 rfl (fun f' L' w' hc => (hc.det (j := 7) rfl rfl rfl rfl).trans (congrArg Value.bool g2)) (fun f' L' w' hc => Op1.loadA (vs := [.int .u32 _, .int .u32 _, .slice _ _ _]) ty37 rfl (hc.old (v := .pointer (some ⟨_, _, none⟩)) rfl rfl rfl) rfl (cells_of_obj (n := 3) (hc.st.objL (List.mem_append_right _ (.head _))) _ rfl) ⟨[], ⟨rfl, rfl⟩, hc.st⟩) ?_
    refine RunD.take (det _) tab1 10 rfl (fun f' L' w' hc => (hc.det (j := 7) rfl rfl rfl rfl).trans (congrArg Value.bool g2)) (fun f' L' w' hc => Op1.loadA (vs := [.int .u32 _, .int .u32 _, .slice _ _ _]) ty37 rfl (hc.old (v := .pointer (some ⟨_, _, none⟩)) rfl rfl rfl) rfl (cells_of_obj (n := 3) (hc.st.objL (List.mem_append_right _ (.tail _ (.tail _ (.head _))))) _ rfl) ⟨[], ⟨rfl, rfl⟩, hc.st⟩) ?_
    refine RunD.take (det _) tab1 11 rfl (fun f' L' w' hc => (hc.det (j := 7) rfl rfl rfl rfl).trans (congrArg Value.bool g2)) (fun f' L' w' hc => Op1.call2 (v1 := .agg #[.int .u32 _, .int .u32 _, .slice _ _ _]) (v2 := .agg #[.int .u32 _, .int .u32 _, .slice _ _ _]) ent32 rfl (hc.det (j := 8) rfl rfl rfl rfl) (hc.det (j := 9) rfl rfl rfl rfl) ((R1md_Same _ _ _ _ _ _ _ _ _ _ _ (Res.rmod_of_omod (hc.st.hL _ (List.mem_append_right _ (.tail _ (.head _))))) (Res.rmod_of_omod (hc.st.hL _ (List.mem_append_right _ (.tail _ (.tail _ (.tail _ (.head _))))))) hgB haB).mono fun v w hp => ⟨[], ⟨hp.1.trans (congrArg Value.bool ((sameM_congr hdB hdA).trans (sameM_comm _ _ _ _ _ _))), rfl⟩, hc.st.keepc hp.2⟩)) ?_
    refine RunD.take (det _) tab1 12 rfl (fun f' L' w' hc => (hc.det (j := 7) rfl rfl rfl rfl).trans (congrArg Value.bool g2)) (fun f' L' w' hc => Op1.loadA (vs := [.int .u32 _, .int .u32 _, .slice _ _ _]) ty37 rfl (hc.old (v := .pointer (some ⟨_, _, none⟩)) rfl rfl rfl) rfl (cells_of_obj (n := 3) (hc.st.objL (List.mem_append_right _ (.tail _ (.tail _ (.tail _ (.tail _ (.tail _ (.head _)))))))) _ rfl) ⟨[], ⟨rfl, rfl⟩, hc.st⟩) ?_
    refine RunD.take (det _) tab1 13 rfl (fun f' L' w' hc => (hc.det (j := 7) rfl rfl rfl rfl).trans (congrArg Value.bool g2)) (fun f' L' w' hc => Op1.loadA (vs := [.int .u32 _, .int .u32 _, .slice _ _ _]) ty37 rfl (hc.old (v := .pointer (some ⟨_, _, none⟩)) rfl rfl rfl) rfl (cells_of_obj (n := 3) (hc.st.objL (List.mem_append_right _ (.tail _ (.tail _ (.tail _ (.tail _ (.head _))))))) _ rfl) ⟨[], ⟨rfl, rfl⟩, hc.st⟩) ?_
    refine RunD.take (det _) tab1 14 rfl (fun f' L' w' hc => (hc.det (j := 7) rfl rfl rfl rfl).trans (congrArg Value.bool g2)) (fun f' L' w' hc => Op1.call2 (v1 := .agg #[.int .u32 _, .int .u32 _, .slice _ _ _]) (v2 := .agg #[.int .u32 _, .int .u32 _, .slice _ _ _]) ent33 rfl (hc.det (j := 11) rfl rfl rfl rfl) (hc.det (j := 12) rfl rfl rfl rfl) ((R1md_Module _ _ _ _ _ _ _ _ _ _ _ (hc.st.hD _ (.head _)) (hc.st.hD _ (.tail _ (.head _))) hl9 ha9).mono fun v w hp => ⟨[], ⟨hp.1, rfl⟩, hc.st.keepc hp.2⟩)) ?_
    refine RunD.take (det _) tab1 15 rfl (fun f' L' w' hc => (hc.det (j := 7) rfl rfl rfl rfl).trans (congrArg Value.bool g2)) (fun f' L' w' hc => Op1.eqlB ty4 (hc.det (j := 10) rfl rfl rfl rfl) (hc.det (j := 13) rfl rfl rfl rfl) ⟨[], ⟨rfl, rfl⟩, hc.st⟩) ?_
    refine RunD.op (det _) tab1 16 (fun f' L' w' hc => Op1.pickT (u := .bool _) (((hc.det (j := 7) rfl rfl rfl rfl)).trans (congrArg Value.bool g2)) (hc.det (j := 14) rfl rfl rfl rfl) ⟨[], ⟨rfl, rfl⟩, hc.st⟩) ?_
    refine RunD.op (det _) tab1 17 (fun f' L' w' hc => Op1.move (v := .bool _) (hc.det (j := 15) rfl rfl rfl rfl) ⟨[], ⟨rfl, rfl⟩, hc.st⟩) ?_
    refine RunD.split (j := 16) rfl (fun g3 => ?_) (fun g3 => ?_)
    · skip
      refine RunD.take (det _) tab1 18 rfl (fun f' L' w' hc => (hc.det (j := 16) rfl rfl rfl rfl).trans (congrArg Value.bool g3)) (fun f' L' w' hc => Op1.loadA (vs := [.int .u32 _, .int .u32 _, .slice _ _ _]) ty37 rfl (hc.old (v := .pointer (some ⟨_, _, none⟩)) rfl rfl rfl) rfl (cells_of_obj (n := 3) (hc.st.objL (List.mem_append_right _ (.tail _ (.tail _ (.head _))))) _ rfl) ⟨[], ⟨rfl, rfl⟩, hc.st⟩) ?_
      refine RunD.take (det _) tab1 19 rfl (fun f' L' w' hc => (hc.det (j := 16) rfl rfl rfl rfl).trans (congrArg Value.bool g3)) (fun f' L' w' hc => Op1.loadA (vs := [.int .u32 _, .int .u32 _, .slice _ _ _]) ty37 rfl (hc.old (v := .pointer (some ⟨_, _, none⟩)) rfl rfl rfl) rfl (cells_of_obj (n := 3) (hc.st.objL (List.mem_append_right _ (.tail _ (.tail _ (.tail _ (.tail _ (.tail _ (.head _)))))))) _ rfl) ⟨[], ⟨rfl, rfl⟩, hc.st⟩) ?_
      refine RunD.take (fun v rs => ∃ bE lE, v = .agg #[.int .u32 ga, .int .u32 ba, .slice (some ⟨bE, 0, none⟩) lE.length lE.length] ∧ lE.map InstP.L = l.map InstP.L ∧ rs = [Res.omod 84 89 (some ⟨bE, 0, none⟩) lE.length lE]) tab1 20 rfl (fun f' L' w' hc => (hc.det (j := 16) rfl rfl rfl rfl).trans (congrArg Value.bool g3)) (fun f' L' w' hc => Op1.call1 (v1 := .agg #[.int .u32 _, .int .u32 _, .slice _ _ _]) ent31 rfl (hc.det (j := 18) rfl rfl rfl rfl) ((R1md_CopyModule _ _ _ _ _ _ (hc.st.hD _ (.head _)) hl hla).mono fun v w hp => (by obtain ⟨bE, lE, rfl, hdE, hp⟩ := hp; exact ⟨_, ⟨bE, lE, rfl, hdE, rfl⟩, hc.st.call0 hp⟩))) ?_
      refine RunD.take (det (.bool true)) tab1 21 rfl (fun f' L' w' hc => (hc.det (j := 16) rfl rfl rfl rfl).trans (congrArg Value.bool g3)) (fun f' L' w' hc => by obtain ⟨_, rs, ⟨bE, lE, h30, hdE, hrs⟩, _, hm⟩ := hc.dep 19 30 rfl rfl; subst hrs; exact Op1.call2 (v1 := .agg #[.int .u32 _, .int .u32 _, .slice _ _ _]) (v2 := .agg #[.int .u32 _, .int .u32 _, .slice _ _ _]) ent32 rfl (hc.det (j := 17) rfl rfl rfl rfl) (evs h30 rfl) ((R1md_Same _ _ _ _ _ _ _ _ _ _ _ (Res.rmod_of_omod (hc.st.hL _ (List.mem_append_right _ (.tail _ (.tail _ (.tail _ (.head _))))))) (Res.rmod_of_omod (hc.st.hL _ (List.mem_append_left _ (hm _ (.head _))))) hgA haA).mono fun v w hp => ⟨[], ⟨hp.1.trans (congrArg Value.bool (sameM_self (hdA.trans hdE.symm))), rfl⟩, hc.st.keepc hp.2⟩)) ?_
      refine RunD.op (det _) tab1 22 (fun f' L' w' hc => Op1.pickT (u := .bool _) (((hc.det (j := 16) rfl rfl rfl rfl)).trans (congrArg Value.bool g3)) (hc.det (j := 20) rfl rfl rfl rfl) ⟨[], ⟨rfl, rfl⟩, hc.st⟩) ?_
      refine RunD.op (det _) tab1 23 (fun f' L' w' hc => Op1.move (v := .bool _) (hc.det (j := 21) rfl rfl rfl rfl) ⟨[], ⟨rfl, rfl⟩, hc.st⟩) ?_
      refine RunD.take (det _) tab1 24 rfl (fun f' L' w' hc => (hc.det (j := 22) rfl rfl rfl rfl).trans (congrArg Value.bool (rfl : true = _))) (fun f' L' w' hc => Op1.loadA (vs := [.int .u32 _, .int .u32 _, .slice _ _ _]) ty37 rfl (hc.old (v := .pointer (some ⟨_, _, none⟩)) rfl rfl rfl) rfl (cells_of_obj (n := 3) (hc.st.objL (List.mem_append_right _ (.tail _ (.tail _ (.head _))))) _ rfl) ⟨[], ⟨rfl, rfl⟩, hc.st⟩) ?_
      refine RunD.take (det _) tab1 25 rfl (fun f' L' w' hc => (hc.det (j := 22) rfl rfl rfl rfl).trans (congrArg Value.bool (rfl : true = _))) (fun f' L' w' hc => Op1.loadA (vs := [.int .u32 _, .int .u32 _, .slice _ _ _]) ty37 rfl (hc.old (v := .pointer (some ⟨_, _, none⟩)) rfl rfl rfl) rfl (cells_of_obj (n := 3) (hc.st.objL (List.mem_append_right _ (.tail _ (.tail _ (.tail _ (.tail _ (.tail _ (.head _)))))))) _ rfl) ⟨[], ⟨rfl, rfl⟩, hc.st⟩) ?_
      refine RunD.take (det _) tab1 26 rfl (fun f' L' w' hc => (hc.det (j := 22) rfl rfl rfl rfl).trans (congrArg Value.bool (rfl : true = _))) (fun f' L' w' hc => Op1.call2 (v1 := .agg #[.int .u32 _, .int .u32 _, .slice _ _ _]) (v2 := .agg #[.int .u32 _, .int .u32 _, .slice _ _ _]) ent33 rfl (hc.det (j := 23) rfl rfl rfl rfl) (hc.det (j := 24) rfl rfl rfl rfl) ((R1md_Module _ _ _ _ _ _ _ _ _ _ _ (Res.rmod_of_omod (hc.st.hL _ (List.mem_append_right _ (.tail _ (.tail _ (.tail _ (.head _))))))) (hc.st.hD _ (.head _)) hgA haA).mono fun v w hp => ⟨[], ⟨hp.1.trans (congrArg Value.bool (sameM_self hdA)), rfl⟩, hc.st.keepc hp.2⟩)) ?_
      refine RunD.op (det _) tab1 27 (fun f' L' w' hc => Op1.pickT (u := .bool _) (((hc.det (j := 22) rfl rfl rfl rfl)).trans (congrArg Value.bool (rfl : true = _))) (hc.det (j := 25) rfl rfl rfl rfl) ⟨[], ⟨rfl, rfl⟩, hc.st⟩) ?_
      refine RunD.op (det _) tab1 28 (fun f' L' w' hc => Op1.move (v := .bool _) (hc.det (j := 26) rfl rfl rfl rfl) ⟨[], ⟨rfl, rfl⟩, hc.st⟩) ?_
      refine RunD.take (det _) tab1 29 rfl (fun f' L' w' hc => (hc.det (j := 27) rfl rfl rfl rfl).trans (congrArg Value.bool (rfl : true = _))) (fun f' L' w' hc => Op1.loadA (vs := [.int .u32 _, .int .u32 _, .slice _ _ _]) ty37 rfl (hc.old (v := .pointer (some ⟨_, _, none⟩)) rfl rfl rfl) rfl (cells_of_obj (n := 3) (hc.st.objL (List.mem_append_right _ (.head _))) _ rfl) ⟨[], ⟨rfl, rfl⟩, hc.st⟩) ?_
      refine RunD.take (det _) tab1 30 rfl (fun f' L' w' hc => (hc.det (j := 27) rfl rfl rfl rfl).trans (congrArg Value.bool (rfl : true = _))) (fun f' L' w' hc => Op1.loadA (vs := [.int .u32 _, .int .u32 _, .slice _ _ _]) ty37 rfl (hc.old (v := .pointer (some ⟨_, _, none⟩)) rfl rfl rfl) rfl (cells_of_obj (n := 3) (hc.st.objL (List.mem_append_right _ (.tail _ (.tail _ (.tail _ (.tail _ (.head _))))))) _ rfl) ⟨[], ⟨rfl, rfl⟩, hc.st⟩) ?_
      refine RunD.fin followsMixed tab1 hst rfl (fun f4 w R7 hs5 hd6 hr8 hst => ?_)
      obtain ⟨h11_, r0⟩ := hd6 0 11 rfl rfl
      obtain ⟨h12_, r1⟩ := hd6 1 12 rfl rfl
      obtain ⟨h13_, r2⟩ := hd6 2 13 rfl rfl
      obtain ⟨h14_, r3⟩ := hd6 3 14 rfl rfl
      obtain ⟨h15_, r4⟩ := hd6 4 15 rfl rfl
      obtain ⟨h16_, r5⟩ := hd6 5 16 rfl rfl
      obtain ⟨h17_, r6⟩ := hd6 6 17 rfl rfl
      obtain ⟨h18_, r7⟩ := hd6 7 18 rfl rfl
      obtain ⟨h19_, r8⟩ := hd6 8 19 rfl rfl
      obtain ⟨h20_, r9⟩ := hd6 9 20 rfl rfl
      obtain ⟨h21_, r10⟩ := hd6 10 21 rfl rfl
      obtain ⟨h22_, r11⟩ := hd6 11 22 rfl rfl
      obtain ⟨h23_, r12⟩ := hd6 12 23 rfl rfl
      obtain ⟨h24_, r13⟩ := hd6 13 24 rfl rfl
      obtain ⟨h25_, r14⟩ := hd6 14 25 rfl rfl
      obtain ⟨h26_, r15⟩ := hd6 15 26 rfl rfl
      obtain ⟨h27_, r16⟩ := hd6 16 27 rfl rfl
      obtain ⟨h28_, r17⟩ := hd6 17 28 rfl rfl
      obtain ⟨h29_, r18⟩ := hd6 18 29 rfl rfl
      obtain ⟨bE, lE, h30_, hdE, r19⟩ := hd6 19 30 rfl rfl
      obtain ⟨h31_, r20⟩ := hd6 20 31 rfl rfl
      obtain ⟨h32_, r21⟩ := hd6 21 32 rfl rfl
      obtain ⟨h33_, r22⟩ := hd6 22 33 rfl rfl
      obtain ⟨h34_, r23⟩ := hd6 23 34 rfl rfl
      obtain ⟨h35_, r24⟩ := hd6 24 35 rfl rfl
      obtain ⟨h36_, r25⟩ := hd6 25 36 rfl rfl
      obtain ⟨h37_, r26⟩ := hd6 26 37 rfl rfl
      obtain ⟨h38_, r27⟩ := hd6 27 38 rfl rfl
      obtain ⟨h39_, r28⟩ := hd6 28 39 rfl rfl
      obtain ⟨h40_, r29⟩ := hd6 29 40 rfl rfl
      simp only [show List.range 30 = [0, 1, 2, 3, 4, 5, 6, 7, 8, 9, 10, 11, 12, 13, 14, 15, 16, 17, 18, 19, 20, 21, 22, 23, 24, 25, 26, 27, 28, 29] from rfl, List.flatMap_cons, List.flatMap_nil, List.map_cons, List.map_nil, r0, r1, r2, r3, r4, r5, r6, r7, r8, r9, r10, r11, r12, r13, r14, r15, r16, r17, r18, r19, r20, r21, r22, r23, r24, r25, r26, r27, r28, r29, List.nil_append, List.append_nil, List.cons_append] at hst
      refine RunL.slots (sl := [(38, .bool _), (39, .agg #[.int .u32 _, .int .u32 _, .slice _ _ _]), (40, .agg #[.int .u32 _, .int .u32 _, .slice _ _ _])]) ⟨h38_, h39_, h40_, trivial⟩ ?_
      clear hs5 hd6 hr8 tab1
      refine RunL.take (t := 38) rfl (congrArg Value.bool (rfl : true = _)) (Op1.call2 (v1 := .agg #[.int .u32 _, .int .u32 _, .slice _ _ _]) (v2 := .agg #[.int .u32 _, .int .u32 _, .slice _ _ _]) ent33 rfl rfl rfl ((R1md_Module _ _ _ _ _ _ _ _ _ _ _ (Res.rmod_of_omod (hst.hL _ (.tail _ (.tail _ (.head _))))) (hst.hD _ (.tail _ (.head _))) hgB haB).mono fun v w hp => ?_))
      obtain ⟨he, hp⟩ := hp
      replace he := he.trans (congrArg Value.bool (sameM_self hdB))
      subst he
      replace hst := hst.keepc hp
      clear hp
      refine RunL.cons (Op1.pickT (u := .bool _) (congrArg Value.bool (rfl : true = _)) rfl ?_)
      refine RunL.cons (Op1.assign (v := .bool _) rfl ?_)
      refine RunL.nil ?_
      refine run_ret1 Try.func7 rfl (RV.tmp (v := .bool _) rfl) ?_
      exact ⟨rfl, hst.pure⟩
    exfalso
    simp at g3
  exfalso
  simp at g2

end Go.SK
