/-
  Walks of functions, and of the laws over them.
-/
import Derived.Test.YtheckaonphmmiaaSkGrP
import Derived.Test.YtheckaonphmmiaaSkGrP2
import Derived.Test.YtheckaonphmmiaaSkQ
import Derived.Test.YtheckaonphmmiaaSkR2GrH
import Derived.Test.YtheckaonphmmiaaSkR2GrIF
set_option linter.unusedVariables false
set_option linter.unusedSimpArgs false
namespace Go.SK
open Go Go.Proofs
open Go.RowKit
theorem R2law_GrammarFits (op : Int) (h0 : 0 ≤ op) (ks : List Int) (ao : Option Addr) (cp : Nat) (w : World) (hA : (Res.rs ao ks.length 1 (ks.flatMap u8C)).holds w) (hlen : ks.length ≤ 140737488355328) : Ret Try.prog 9 #[.int .u16 op, .slice ao ks.length cp] w (fun v w' => v = .bool true ∧ St w NoM [] [] w') := by
  refine Ret.enter (args := [.int .u16 op, .slice ao ks.length cp]) Try.func9 rfl rfl rfl ?_
  have hst : St w NoM [] [Res.rs ao ks.length 1 (ks.flatMap u8C)] w := St.init_D hA
  clear hA
  refine run_seq ?_
  refine run_region ?_
  refine RunL.cons (Op1.assign (v := .bool _) rfl ?_)
  refine RunL.nil ?_
  refine run_seq ?_
  refine run_region ?_
  refine RunL.cons (Op1.move (v := .int .u16 _) rfl ?_)
  refine RunL.cons (Op1.move (v := .slice _ _ _) rfl ?_)
  refine RunL.cons (Op1.call2 (v1 := .int .u16 _) (v2 := .slice _ _ _) ent28 rfl rfl rfl ((R2ref_Fits op h0 ks _ _ _ (hst.hD _ (.head _)) (by omega)).mono fun v w hp => ?_))
  obtain ⟨rfl, hp⟩ := hp
  replace hst := hst.keepc hp
  clear hp
  refine RunL.cons (Op1.move (v := .tuple #[.int .i64 _, .bool _]) rfl ?_)
  refine RunL.cons (Op1.extract (v := .int .i64 _) rfl rfl ?_)
  refine RunL.cons (Op1.extract (v := .bool _) rfl rfl ?_)
  refine RunL.cons (Op1.assign (v := .int .i64 _) rfl ?_)
  refine RunL.cons (Op1.assign (v := .bool _) rfl ?_)
  refine RunL.nil ?_
  refine run_seq ?_
  refine run_region ?_
  refine RunL.cons (Op1.move (v := .slice _ _ _) rfl ?_)
  refine RunL.cons (Op1.lenSl (rest := []) ty53 rfl ?_)
  refine RunL.cons (Op1.makeSlV hst ty53 ty5 rfl rfl rfl (by decide) (by omega) (by omega) fun w bC hst => ?_)
  rw [cp_zero] at hst
  refine RunL.cons (Op1.assign (v := .slice _ _ _) rfl ?_)
  refine RunL.nil ?_
  refine run_seq ?_
  refine run_seq ?_
  refine run_region ?_
  refine RunL.cons (Op1.assign (v := .int .i64 _) rfl ?_)
  refine RunL.nil ?_
  refine run_block ?_
  refine run_loop ?_
  refine Run.indW [(0, .int .u16 _), (1, .slice _ _ _), (5, .int .i64 _), (6, .bool _), (7, .slice _ _ _)] ⟨rfl, rfl, rfl, rfl, rfl, trivial⟩ (fun (i : Nat) => [(8, .int .i64 (i : Int))]) (fun (i : Nat) => [Res.sl (some ⟨bC, 0, none⟩) ks.length ks.length 5 1 ((cpL ks i).flatMap u8C)]) (fun (i : Nat) => i ≤ ks.length) (fun (i : Nat) => ks.length - i) (0) hst (Nat.zero_le _) ⟨rfl, trivial⟩ ?_
  intro i f w hst hJ ih1
  refine run_seq ?_
  refine run_seq ?_
  refine run_region ?_
  refine RunL.cons (Op1.move (v := .int .i64 _) rfl ?_)
  refine RunL.cons (Op1.move (v := .slice _ _ _) rfl ?_)
  refine RunL.cons (Op1.lenSl (rest := []) ty53 rfl ?_)
  refine RunL.cons (Op1.lss rfl rfl ?_)
  refine RunL.nil ?_
  refine run_cond_dec rfl (fun g2 => ?_) (fun g2 => ?_)
  · skip
    refine run_skip ?_
    refine run_seq ?_
    refine run_block ?_
    refine run_region ?_
    refine RunL.cons (Op1.move (v := .slice _ _ _) rfl ?_)
    refine RunL.cons (Op1.move (v := .int .i64 _) rfl ?_)
    refine RunL.cons (Op1.move (v := .slice _ _ _) rfl ?_)
    refine RunL.cons (Op1.move (v := .int .i64 _) rfl ?_)
    obtain ⟨bs3, os4, rfl⟩ := Res.rs_some (hst.hD _ (.head _)) (by omega)
    refine RunL.cons (Op1.indexSl ty53 ty5 rfl rfl (by omega) (by omega) ?_)
    refine RunL.cons (Op1.load1 (v := .int .u8 _) ty5 rfl rfl (Res.rs_cell (hst.hD _ (.head _)) (flat_cell0 (g := u8C) (d := 0) u8C_len rfl (by omega))) ?_)
    refine RunL.cons (Op1.indexSl ty53 ty5 rfl rfl (by omega) (by omega) ?_)
    refine RunL.cons (Op1.storeSl (v := .int .u8 _) hst ty5 rfl rfl rfl rfl rfl (.here) (by simp only [List.length_cons, List.length_nil]; omega) fun w hst => ?_)
    refine RunL.nil ?_
    refine run_inBlock ?_
    refine run_region ?_
    refine RunL.cons (Op1.move (v := .int .i64 _) rfl ?_)
    refine RunL.cons (Op1.addN rfl rfl rfl (wrap_i64 (by omega) (by omega)) ?_)
    refine RunL.cons (Op1.assign (v := .int .i64 _) rfl ?_)
    refine RunL.nil ?_
    refine run_inLoop ?_
    exact ih1 (i + 1) _ w (by omega) (by (try dsimp only); rw [← cp_step (by omega)]; exact hst) (by omega) ⟨rfl, rfl, rfl, rfl, rfl, trivial⟩ ⟨(congrArg (Value.int .i64) (by omega)), trivial⟩
  obtain rfl : i = ks.length := by omega
  rw [cp_all] at hst
  refine run_exit (id := 0) rfl ?_
  refine run_seq ?_
  refine run_region ?_
  refine RunL.cons (Op1.move (v := .int .u16 _) rfl ?_)
  refine RunL.cons (Op1.move (v := .slice _ _ _) rfl ?_)
  refine RunL.cons (Op1.call2 (v1 := .int .u16 _) (v2 := .slice _ _ _) ent29 rfl rfl rfl ((R2gr_Fits op h0 ks _ _ _ (Res.rs_of_sl (hst.hL _ (.head _))) (by omega)).mono fun v w hp => ?_))
  obtain ⟨rfl, hp⟩ := hp
  replace hst := hst.keepc hp
  clear hp
  refine RunL.cons (Op1.move (v := .tuple #[.int .i64 _, .bool _]) rfl ?_)
  refine RunL.cons (Op1.extract (v := .int .i64 _) rfl rfl ?_)
  refine RunL.cons (Op1.extract (v := .bool _) rfl rfl ?_)
  refine RunL.cons (Op1.assign (v := .int .i64 _) rfl ?_)
  refine RunL.cons (Op1.assign (v := .bool _) rfl ?_)
  refine RunL.nil ?_
  refine run_seq ?_
  refine run_seq ?_
  refine run_region ?_
  refine RunL.cons (Op1.assign (v := .int .i64 _) rfl ?_)
  refine RunL.nil ?_
  refine run_block ?_
  refine run_loop ?_
  refine Run.indW [(1, .slice _ _ _), (5, .int .i64 _), (6, .bool _), (7, .slice _ _ _), (9, .int .i64 _), (10, .bool _)] ⟨rfl, rfl, rfl, rfl, rfl, rfl, trivial⟩ (fun (i : Nat) => [(11, .int .i64 (i : Int))]) (fun (i : Nat) => []) (fun (i : Nat) => i ≤ ks.length) (fun (i : Nat) => ks.length - i) (0) hst (Nat.zero_le _) ⟨rfl, trivial⟩ ?_
  intro i f w hst hJ ih5
  refine run_seq ?_
  refine run_seq ?_
  refine run_region ?_
  refine RunL.cons (Op1.move (v := .int .i64 _) rfl ?_)
  refine RunL.cons (Op1.move (v := .slice _ _ _) rfl ?_)
  refine RunL.cons (Op1.lenSl (rest := []) ty53 rfl ?_)
  refine RunL.cons (Op1.lss rfl rfl ?_)
  refine RunL.nil ?_
  refine run_cond_dec rfl (fun g6 => ?_) (fun g6 => ?_)
  · skip
    refine run_skip ?_
    refine run_seq ?_
    refine run_block ?_
    refine run_seq ?_
    obtain ⟨bs7, os8, rfl⟩ := Res.rs_some (hst.hD _ (.head _)) (by omega)
    refine RunD.start [] hst (bs := [0, 0, 3, 7, 0, 0, 48, 112, 255]) (ds := [some 46, some 47, some 48, some 49, some 50, some 51, some 52, some 53, some 54]) ⟨by kernel_rfl, by kernel_rfl, by kernel_rfl⟩ (fun tab9 => ?_)
    refine RunD.op (det _) tab9 1 (fun f' L' w' hc => Op1.move (v := .slice _ _ _) (hc.old (v := .slice _ _ _) rfl rfl rfl) ⟨[], ⟨rfl, rfl⟩, hc.st⟩) ?_
    refine RunD.op (det _) tab9 2 (fun f' L' w' hc => Op1.move (v := .int .i64 _) (hc.old (v := .int .i64 _) rfl rfl rfl) ⟨[], ⟨rfl, rfl⟩, hc.st⟩) ?_
    refine RunD.op (det _) tab9 3 (fun f' L' w' hc => Op1.indexSl ty53 ty5 (hc.det (j := 0) rfl rfl rfl rfl) (hc.det (j := 1) rfl rfl rfl rfl) (by omega) (by omega) ⟨[], ⟨rfl, rfl⟩, hc.st⟩) ?_
    refine RunD.op (det _) tab9 4 (fun f' L' w' hc => Op1.load1 (v := .int .u8 _) ty5 rfl (hc.det (j := 2) rfl rfl rfl rfl) (Res.sl_cell (hc.st.hL _ (List.mem_append_right _ (.head _))) (flat_cell0 (g := u8C) (d := 0) u8C_len rfl (by omega))) ⟨[], ⟨rfl, rfl⟩, hc.st⟩) ?_
    refine RunD.op (det _) tab9 5 (fun f' L' w' hc => Op1.move (v := .slice _ _ _) (hc.old (v := .slice _ _ _) rfl rfl rfl) ⟨[], ⟨rfl, rfl⟩, hc.st⟩) ?_
    refine RunD.op (det _) tab9 6 (fun f' L' w' hc => Op1.move (v := .int .i64 _) (hc.old (v := .int .i64 _) rfl rfl rfl) ⟨[], ⟨rfl, rfl⟩, hc.st⟩) ?_
    refine RunD.op (det _) tab9 7 (fun f' L' w' hc => Op1.indexSl ty53 ty5 (hc.det (j := 4) rfl rfl rfl rfl) (hc.det (j := 5) rfl rfl rfl rfl) (by omega) (by omega) ⟨[], ⟨rfl, rfl⟩, hc.st⟩) ?_
    refine RunD.op (det _) tab9 8 (fun f' L' w' hc => Op1.load1 (v := .int .u8 _) ty5 rfl (hc.det (j := 6) rfl rfl rfl rfl) (Res.rs_cell (hc.st.hD _ (.head _)) (flat_cell0 (g := u8C) (d := 0) u8C_len rfl (by omega))) ⟨[], ⟨rfl, rfl⟩, hc.st⟩) ?_
    refine RunD.fin followsMixed tab9 hst rfl (fun f10 w R13 hs11 hd12 hr14 hst => ?_)
    obtain ⟨h46_, r0⟩ := hd12 0 46 rfl rfl
    obtain ⟨h47_, r1⟩ := hd12 1 47 rfl rfl
    obtain ⟨h48_, r2⟩ := hd12 2 48 rfl rfl
    obtain ⟨h49_, r3⟩ := hd12 3 49 rfl rfl
    obtain ⟨h50_, r4⟩ := hd12 4 50 rfl rfl
    obtain ⟨h51_, r5⟩ := hd12 5 51 rfl rfl
    obtain ⟨h52_, r6⟩ := hd12 6 52 rfl rfl
    obtain ⟨h53_, r7⟩ := hd12 7 53 rfl rfl
    simp only [show List.range 8 = [0, 1, 2, 3, 4, 5, 6, 7] from rfl, List.flatMap_cons, List.flatMap_nil, List.map_cons, List.map_nil, r0, r1, r2, r3, r4, r5, r6, r7, List.nil_append, List.append_nil, List.cons_append] at hst
    refine RunL.slots (sl := [(1, .slice _ _ _), (5, .int .i64 _), (6, .bool _), (7, .slice _ _ _), (9, .int .i64 _), (10, .bool _), (11, .int .i64 _), (49, .int .u8 _), (53, .int .u8 _)]) ⟨(hs11 1 rfl).trans rfl, (hs11 5 rfl).trans rfl, (hs11 6 rfl).trans rfl, (hs11 7 rfl).trans rfl, (hs11 9 rfl).trans rfl, (hs11 10 rfl).trans rfl, (hs11 11 rfl).trans rfl, h49_, h53_, trivial⟩ ?_
    clear hs11 hd12 hr14 tab9
    refine RunL.cons (Op1.neq rfl rfl ?_)
    refine RunL.nil ?_
    refine run_cond_dec rfl (fun g15 => ?_) (fun g15 => ?_)
    · skip
      exfalso
      exact g15 rfl
    refine run_skip ?_
    refine run_inBlock ?_
    refine run_region ?_
    refine RunL.cons (Op1.move (v := .int .i64 _) rfl ?_)
    refine RunL.cons (Op1.addN rfl rfl rfl (wrap_i64 (by omega) (by omega)) ?_)
    refine RunL.cons (Op1.assign (v := .int .i64 _) rfl ?_)
    refine RunL.nil ?_
    refine run_inLoop ?_
    exact ih5 (i + 1) _ w (by omega) hst (by omega) ⟨rfl, rfl, rfl, rfl, rfl, rfl, trivial⟩ ⟨(congrArg (Value.int .i64) (by omega)), trivial⟩
  refine run_exit (id := 2) rfl ?_
  refine run_seq ?_
  refine run_region ?_
  refine RunL.cons (Op1.move (v := .int .i64 _) rfl ?_)
  refine RunL.cons (Op1.move (v := .int .i64 _) rfl ?_)
  refine RunL.cons (Op1.eql rfl rfl ?_)
  refine RunL.cons (Op1.move (v := .bool _) rfl ?_)
  refine RunL.splitD (d := 58) rfl (fun g16 => ?_) (fun g16 => ?_)
  · skip
    refine RunL.take (t := 58) rfl (congrArg Value.bool (decide_eq_true g16)) (Op1.move (v := .bool _) rfl ?_)
    refine RunL.take (t := 58) rfl (congrArg Value.bool (decide_eq_true g16)) (Op1.move (v := .bool _) rfl ?_)
    refine RunL.take (t := 58) rfl (congrArg Value.bool (decide_eq_true g16)) (Op1.eqlB ty4 rfl rfl ?_)
    refine RunL.cons (Op1.pickT (u := .bool _) (congrArg Value.bool (decide_eq_true g16)) rfl ?_)
    refine RunL.cons (Op1.assign (v := .bool _) rfl ?_)
    refine RunL.nil ?_
    refine run_ret1 Try.func9 rfl (RV.tmp (v := .bool _) rfl) ?_
    exact ⟨by simp, hst.pure⟩
  exfalso
  exact g16 rfl

end Go.SK
