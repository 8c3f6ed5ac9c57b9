/-
  Walks of functions, and of the laws over them.
-/
import Derived.Test.YtnbapjkldjhjoaaSkFacts1
import Derived.Test.YtnbapjkldjhjoaaSkFacts2
import Derived.Test.YtnbapjkldjhjoaaSkCoverF
import Derived.Test.YtnbapjkldjhjoaaSkCoverW
import Derived.Test.YtnbapjkldjhjoaaSkCoverV
import Derived.Test.YtnbapjkldjhjoaaSkM
set_option linter.unusedVariables false
set_option linter.unusedSimpArgs false
namespace Go.SK
open Go Go.Proofs
open Go.RowKit
theorem law28_at0 (l : List (Int × Int × Int)) (ao : Option Addr) (cp : Nat) (k : Nat) (x : Int) (hk : k < l.length) (h1 : (l.getD k (0, 0, 0)).2.1 ≤ x) (h2 : x < (l.getD k (0, 0, 0)).2.2) (w : World) (hA : (Res.sl ao l.length cp 56 3 (l.flatMap rowC)).holds w) (hbd : RowsBd l) : Ret Try.prog 50 #[.slice ao l.length cp, .int .i64 (totN l k + (x - (l.getD k (0, 0, 0)).2.1)), .int .i64 x, .int .i64 (l.getD k (0, 0, 0)).1] w (fun v w' => v = .bool true ∧ St w NoM [] [] w') := by
  refine Ret.enter (args := [.slice ao l.length cp, .int .i64 (totN l k + (x - (l.getD k (0, 0, 0)).2.1)), .int .i64 x, .int .i64 (l.getD k (0, 0, 0)).1]) Try.func50 rfl rfl rfl ?_
  have hst : St w NoM [] [Res.sl ao l.length cp 56 3 (l.flatMap rowC)] w := St.init_D hA
  clear hA
  have hbd1 := hbd.1
  have hbk : 0 ≤ (l.getD k (0, 0, 0)).2.1 ∧ (l.getD k (0, 0, 0)).2.1 < (l.getD k (0, 0, 0)).2.2 ∧ (l.getD k (0, 0, 0)).2.2 ≤ 1024 := hbd.2 k hk
  have htk0 := totN_bd hbd k (by omega)
  refine run_seq ?_
  refine run_region ?_
  refine RunL.cons (Op1.assign (v := .bool _) rfl ?_)
  refine RunL.nil ?_
  refine run_seq ?_
  refine run_seq ?_
  refine run_region ?_
  refine RunL.cons (Op1.assign (v := .int .i64 _) rfl ?_)
  refine RunL.nil ?_
  refine run_block ?_
  refine run_loop ?_
  have sta1 := hst.static (L1 := [])
  replace hst := hst.toD (L1 := [])
  refine Run.indS (fun (i : Nat) => [(1, .int .i64 (totN l k + (x - (l.getD k (0, 0, 0)).2.1) - totN l i)), (9, .int .i64 (i : Int))]) [0, 2, 3] (fun (i : Nat) => []) (fun (i : Nat) => i ≤ k) (fun (i : Nat) => k - i) 0 hst (Nat.zero_le _) ⟨(congrArg (Value.int .i64) (by simp only [totN]; omega)), rfl, trivial⟩ (Keep.refl _ _) ?_
  intro i f w kf2 hst hJ ih3
  replace hst := hst.back sta1
  refine Run.slots (sl := [(0, .slice _ _ _), (2, .int .i64 _), (3, .int .i64 _)]) ⟨(kf2.get 0 rfl).trans rfl, (kf2.get 2 rfl).trans rfl, (kf2.get 3 rfl).trans rfl, trivial⟩ ?_
  refine run_seq ?_
  refine run_seq ?_
  refine run_region ?_
  refine RunL.cons (Op1.move (v := .int .i64 _) rfl ?_)
  refine RunL.cons (Op1.move (v := .slice _ _ _) rfl ?_)
  refine RunL.cons (Op1.lenSl (rest := []) ty50 rfl ?_)
  refine RunL.cons (Op1.lss rfl rfl ?_)
  refine RunL.nil ?_
  refine run_cond_dec rfl (fun g4 => ?_) (fun g4 => ?_)
  · skip
    have hb2 : 0 ≤ (l.getD i (0, 0, 0)).2.1 ∧ (l.getD i (0, 0, 0)).2.1 < (l.getD i (0, 0, 0)).2.2 ∧ (l.getD i (0, 0, 0)).2.2 ≤ 1024 := hbd.2 i (by omega)
    have ht1 := totN_bd hbd i (by omega)
    have htk := totN_bd hbd k (by omega)
    have hs : totN l (i + 1) = totN l i + ((l.getD i (0, 0, 0)).2.2 - (l.getD i (0, 0, 0)).2.1) := rfl
    have hm : i < k → totN l (i + 1) ≤ totN l k := fun h => by have := totN_mono hbd (i := i + 1) (k - (i + 1)) (by omega); rwa [show i + 1 + (k - (i + 1)) = k by omega] at this
    have hq : (l.getD ((i : Int)).toNat (0, 0, 0)).2.2 = (l.getD i (0, 0, 0)).2.2 ∧ (l.getD ((i : Int)).toNat (0, 0, 0)).2.1 = (l.getD i (0, 0, 0)).2.1 ∧ (l.getD ((i : Int)).toNat (0, 0, 0)).1 = (l.getD i (0, 0, 0)).1 := ⟨rfl, rfl, rfl⟩
    have he : i = k → (l.getD i (0, 0, 0)) = (l.getD k (0, 0, 0)) := fun h => by rw [h]
    have he1 : i = k → totN l i = totN l k := fun h => by rw [h]
    have he2 : i = k → (l.getD i (0, 0, 0)).2.2 = (l.getD k (0, 0, 0)).2.2 ∧ (l.getD i (0, 0, 0)).2.1 = (l.getD k (0, 0, 0)).2.1 ∧ (l.getD i (0, 0, 0)).1 = (l.getD k (0, 0, 0)).1 := fun h => by rw [h]; exact ⟨rfl, rfl, rfl⟩
    refine run_skip ?_
    refine run_seq ?_
    refine run_block ?_
    refine run_seq ?_
    refine run_seq ?_
    obtain ⟨bs5, rfl⟩ := Res.sl_some (hst.hD _ (.head _)) (by omega)
    refine RunD.start [] hst (bs := [0, 0, 0, 6, 14, 30, 0, 0, 192, 448, 960, 2046, 4095]) (ds := [some 16, some 17, some 18, some 19, some 20, some 21, some 22, some 23, some 24, some 25, some 26, some 27, some 28]) ⟨by kernel_rfl, by kernel_rfl, by kernel_rfl⟩ (fun tab6 => ?_)
    refine RunD.op (det _) tab6 1 (fun f' L' w' hc => Op1.move (v := .int .i64 _) (hc.old (v := .int .i64 _) rfl rfl rfl) ⟨[], ⟨rfl, rfl⟩, hc.st⟩) ?_
    refine RunD.op (det _) tab6 2 (fun f' L' w' hc => Op1.move (v := .slice _ _ _) (hc.old (v := .slice _ _ _) rfl rfl rfl) ⟨[], ⟨rfl, rfl⟩, hc.st⟩) ?_
    refine RunD.op (det _) tab6 3 (fun f' L' w' hc => Op1.move (v := .int .i64 _) (hc.old (v := .int .i64 _) rfl rfl rfl) ⟨[], ⟨rfl, rfl⟩, hc.st⟩) ?_
    refine RunD.op (det _) tab6 4 (fun f' L' w' hc => Op1.indexSl ty50 ty56 (hc.det (j := 1) rfl rfl rfl rfl) (hc.det (j := 2) rfl rfl rfl rfl) (by omega) (by omega) ⟨[], ⟨rfl, rfl⟩, hc.st⟩) ?_
    refine RunD.op (det _) tab6 5 (fun f' L' w' hc => Op1.fieldAddr fld56_2 (hc.det (j := 3) rfl rfl rfl rfl) ⟨[], ⟨rfl, rfl⟩, hc.st⟩) ?_
    refine RunD.op (det _) tab6 6 (fun f' L' w' hc => Op1.load1 (v := .int .i64 _) ty3 rfl (hc.det (j := 4) rfl rfl rfl rfl) (Res.sl_cell (hc.st.hD _ (.head _)) (flat_cell (g := rowC) (d := (0, 0, 0)) rowC_len rfl (by omega))) ⟨[], ⟨rfl, rfl⟩, hc.st⟩) ?_
    refine RunD.op (det _) tab6 7 (fun f' L' w' hc => Op1.move (v := .slice _ _ _) (hc.old (v := .slice _ _ _) rfl rfl rfl) ⟨[], ⟨rfl, rfl⟩, hc.st⟩) ?_
    refine RunD.op (det _) tab6 8 (fun f' L' w' hc => Op1.move (v := .int .i64 _) (hc.old (v := .int .i64 _) rfl rfl rfl) ⟨[], ⟨rfl, rfl⟩, hc.st⟩) ?_
    refine RunD.op (det _) tab6 9 (fun f' L' w' hc => Op1.indexSl ty50 ty56 (hc.det (j := 6) rfl rfl rfl rfl) (hc.det (j := 7) rfl rfl rfl rfl) (by omega) (by omega) ⟨[], ⟨rfl, rfl⟩, hc.st⟩) ?_
    refine RunD.op (det _) tab6 10 (fun f' L' w' hc => Op1.fieldAddr fld56_1 (hc.det (j := 8) rfl rfl rfl rfl) ⟨[], ⟨rfl, rfl⟩, hc.st⟩) ?_
    refine RunD.op (det _) tab6 11 (fun f' L' w' hc => Op1.load1 (v := .int .i64 _) ty3 rfl (hc.det (j := 9) rfl rfl rfl rfl) (Res.sl_cell (hc.st.hD _ (.head _)) (flat_cell (g := rowC) (d := (0, 0, 0)) rowC_len rfl (by omega))) ⟨[], ⟨rfl, rfl⟩, hc.st⟩) ?_
    refine RunD.op (det _) tab6 12 (fun f' L' w' hc => Op1.subN (hc.det (j := 5) rfl rfl rfl rfl) (hc.det (j := 10) rfl rfl rfl rfl) rfl (wrap_i64 (by omega) (by omega)) ⟨[], ⟨rfl, rfl⟩, hc.st⟩) ?_
    refine RunD.fin followsMixed tab6 hst rfl (fun f7 w R10 hs8 hd9 hr11 hst => ?_)
    obtain ⟨h16_, r0⟩ := hd9 0 16 rfl rfl
    obtain ⟨h17_, r1⟩ := hd9 1 17 rfl rfl
    obtain ⟨h18_, r2⟩ := hd9 2 18 rfl rfl
    obtain ⟨h19_, r3⟩ := hd9 3 19 rfl rfl
    obtain ⟨h20_, r4⟩ := hd9 4 20 rfl rfl
    obtain ⟨h21_, r5⟩ := hd9 5 21 rfl rfl
    obtain ⟨h22_, r6⟩ := hd9 6 22 rfl rfl
    obtain ⟨h23_, r7⟩ := hd9 7 23 rfl rfl
    obtain ⟨h24_, r8⟩ := hd9 8 24 rfl rfl
    obtain ⟨h25_, r9⟩ := hd9 9 25 rfl rfl
    obtain ⟨h26_, r10⟩ := hd9 10 26 rfl rfl
    obtain ⟨h27_, r11⟩ := hd9 11 27 rfl rfl
    simp only [show List.range 12 = [0, 1, 2, 3, 4, 5, 6, 7, 8, 9, 10, 11] from rfl, List.flatMap_cons, List.flatMap_nil, List.map_cons, List.map_nil, r0, r1, r2, r3, r4, r5, r6, r7, r8, r9, r10, r11, List.nil_append, List.append_nil, List.cons_append] at hst
    refine RunL.slots (sl := [(0, .slice _ _ _), (1, .int .i64 _), (2, .int .i64 _), (3, .int .i64 _), (9, .int .i64 _), (16, .int .i64 _), (27, .int .i64 _)]) ⟨(hs8 0 rfl).trans rfl, (hs8 1 rfl).trans rfl, (hs8 2 rfl).trans rfl, (hs8 3 rfl).trans rfl, (hs8 9 rfl).trans rfl, h16_, h27_, trivial⟩ ?_
    clear hs8 hd9 hr11 tab6
    refine RunL.cons (Op1.lss rfl rfl ?_)
    refine RunL.nil ?_
    refine run_cond_dec rfl (fun g12 => ?_) (fun g12 => ?_)
    · skip
      refine run_seq ?_
      refine run_region ?_
      refine RunL.cons (Op1.move (v := .int .i64 _) rfl ?_)
      refine RunL.cons (Op1.move (v := .slice _ _ _) rfl ?_)
      refine RunL.cons (Op1.move (v := .int .i64 _) rfl ?_)
      refine RunL.cons (Op1.indexSl ty50 ty56 rfl rfl (by omega) (by omega) ?_)
      refine RunL.cons (Op1.fieldAddr fld56_1 rfl ?_)
      refine RunL.cons (Op1.load1 (v := .int .i64 _) ty3 rfl rfl (Res.sl_cell (hst.hD _ (.head _)) (flat_cell (g := rowC) (d := (0, 0, 0)) rowC_len rfl (by omega))) ?_)
      refine RunL.cons (Op1.move (v := .int .i64 _) rfl ?_)
      refine RunL.cons (Op1.addN rfl rfl rfl (wrap_i64 (by omega) (by omega)) ?_)
      refine RunL.cons (Op1.eql rfl rfl ?_)
      refine RunL.cons (Op1.move (v := .bool _) rfl ?_)
      refine RunL.splitD (d := 38) rfl (fun g13 => ?_) (fun g13 => ?_)
      · skip
        refine RunL.take (t := 38) rfl (congrArg Value.bool (decide_eq_true g13)) (Op1.move (v := .int .i64 _) rfl ?_)
        refine RunL.take (t := 38) rfl (congrArg Value.bool (decide_eq_true g13)) (Op1.move (v := .slice _ _ _) rfl ?_)
        refine RunL.take (t := 38) rfl (congrArg Value.bool (decide_eq_true g13)) (Op1.move (v := .int .i64 _) rfl ?_)
        refine RunL.take (t := 38) rfl (congrArg Value.bool (decide_eq_true g13)) (Op1.indexSl ty50 ty56 rfl rfl (by omega) (by omega) ?_)
        refine RunL.take (t := 38) rfl (congrArg Value.bool (decide_eq_true g13)) (Op1.fieldAddr fld56_0 rfl ?_)
        refine RunL.take (t := 38) rfl (congrArg Value.bool (decide_eq_true g13)) (Op1.load1 (v := .int .i64 _) ty3 rfl rfl (Res.sl_cell (hst.hD _ (.head _)) (flat_cell (g := rowC) (d := (0, 0, 0)) rowC_len rfl (by omega))) ?_)
        refine RunL.take (t := 38) rfl (congrArg Value.bool (decide_eq_true g13)) (Op1.eql rfl rfl ?_)
        refine RunL.cons (Op1.pickT (u := .bool _) (congrArg Value.bool (decide_eq_true g13)) rfl ?_)
        refine RunL.cons (Op1.assign (v := .bool _) rfl ?_)
        refine RunL.nil ?_
        refine run_ret1 Try.func50 rfl (RV.tmp (v := .bool _) rfl) ?_
        exact ⟨congrArg Value.bool (decide_eq_true (by omega)), hst.pure⟩
      · skip
        exfalso
        omega
    · skip
      refine run_skip ?_
      refine RunD.start [] hst (bs := [0, 0, 0, 6, 14, 30, 0, 0, 192, 448, 960, 2046, 4095, 8191]) (ds := [some 47, some 48, some 49, some 50, some 51, some 52, some 53, some 54, some 55, some 56, some 57, some 58, some 59, some 1]) ⟨by kernel_rfl, by kernel_rfl, by kernel_rfl⟩ (fun tab14 => ?_)
      refine RunD.op (det _) tab14 1 (fun f' L' w' hc => Op1.move (v := .int .i64 _) (hc.old (v := .int .i64 _) rfl rfl rfl) ⟨[], ⟨rfl, rfl⟩, hc.st⟩) ?_
      refine RunD.op (det _) tab14 2 (fun f' L' w' hc => Op1.move (v := .slice _ _ _) (hc.old (v := .slice _ _ _) rfl rfl rfl) ⟨[], ⟨rfl, rfl⟩, hc.st⟩) ?_
      refine RunD.op (det _) tab14 3 (fun f' L' w' hc => Op1.move (v := .int .i64 _) (hc.old (v := .int .i64 _) rfl rfl rfl) ⟨[], ⟨rfl, rfl⟩, hc.st⟩) ?_
      refine RunD.op (det _) tab14 4 (fun f' L' w' hc => Op1.indexSl ty50 ty56 (hc.det (j := 1) rfl rfl rfl rfl) (hc.det (j := 2) rfl rfl rfl rfl) (by omega) (by omega) ⟨[], ⟨rfl, rfl⟩, hc.st⟩) ?_
      refine RunD.op (det _) tab14 5 (fun f' L' w' hc => Op1.fieldAddr fld56_2 (hc.det (j := 3) rfl rfl rfl rfl) ⟨[], ⟨rfl, rfl⟩, hc.st⟩) ?_
      refine RunD.op (det _) tab14 6 (fun f' L' w' hc => Op1.load1 (v := .int .i64 _) ty3 rfl (hc.det (j := 4) rfl rfl rfl rfl) (Res.sl_cell (hc.st.hD _ (.head _)) (flat_cell (g := rowC) (d := (0, 0, 0)) rowC_len rfl (by omega))) ⟨[], ⟨rfl, rfl⟩, hc.st⟩) ?_
      refine RunD.op (det _) tab14 7 (fun f' L' w' hc => Op1.move (v := .slice _ _ _) (hc.old (v := .slice _ _ _) rfl rfl rfl) ⟨[], ⟨rfl, rfl⟩, hc.st⟩) ?_
      refine RunD.op (det _) tab14 8 (fun f' L' w' hc => Op1.move (v := .int .i64 _) (hc.old (v := .int .i64 _) rfl rfl rfl) ⟨[], ⟨rfl, rfl⟩, hc.st⟩) ?_
      refine RunD.op (det _) tab14 9 (fun f' L' w' hc => Op1.indexSl ty50 ty56 (hc.det (j := 6) rfl rfl rfl rfl) (hc.det (j := 7) rfl rfl rfl rfl) (by omega) (by omega) ⟨[], ⟨rfl, rfl⟩, hc.st⟩) ?_
      refine RunD.op (det _) tab14 10 (fun f' L' w' hc => Op1.fieldAddr fld56_1 (hc.det (j := 8) rfl rfl rfl rfl) ⟨[], ⟨rfl, rfl⟩, hc.st⟩) ?_
      refine RunD.op (det _) tab14 11 (fun f' L' w' hc => Op1.load1 (v := .int .i64 _) ty3 rfl (hc.det (j := 9) rfl rfl rfl rfl) (Res.sl_cell (hc.st.hD _ (.head _)) (flat_cell (g := rowC) (d := (0, 0, 0)) rowC_len rfl (by omega))) ⟨[], ⟨rfl, rfl⟩, hc.st⟩) ?_
      refine RunD.op (det _) tab14 12 (fun f' L' w' hc => Op1.subN (hc.det (j := 5) rfl rfl rfl rfl) (hc.det (j := 10) rfl rfl rfl rfl) rfl (wrap_i64 (by omega) (by omega)) ⟨[], ⟨rfl, rfl⟩, hc.st⟩) ?_
      refine RunD.fin followsMixed tab14 hst rfl (fun f15 w R18 hs16 hd17 hr19 hst => ?_)
      obtain ⟨h47_, r0⟩ := hd17 0 47 rfl rfl
      obtain ⟨h48_, r1⟩ := hd17 1 48 rfl rfl
      obtain ⟨h49_, r2⟩ := hd17 2 49 rfl rfl
      obtain ⟨h50_, r3⟩ := hd17 3 50 rfl rfl
      obtain ⟨h51_, r4⟩ := hd17 4 51 rfl rfl
      obtain ⟨h52_, r5⟩ := hd17 5 52 rfl rfl
      obtain ⟨h53_, r6⟩ := hd17 6 53 rfl rfl
      obtain ⟨h54_, r7⟩ := hd17 7 54 rfl rfl
      obtain ⟨h55_, r8⟩ := hd17 8 55 rfl rfl
      obtain ⟨h56_, r9⟩ := hd17 9 56 rfl rfl
      obtain ⟨h57_, r10⟩ := hd17 10 57 rfl rfl
      obtain ⟨h58_, r11⟩ := hd17 11 58 rfl rfl
      simp only [show List.range 12 = [0, 1, 2, 3, 4, 5, 6, 7, 8, 9, 10, 11] from rfl, List.flatMap_cons, List.flatMap_nil, List.map_cons, List.map_nil, r0, r1, r2, r3, r4, r5, r6, r7, r8, r9, r10, r11, List.nil_append, List.append_nil, List.cons_append] at hst
      refine RunL.slots (sl := [(0, .slice _ _ _), (2, .int .i64 _), (3, .int .i64 _), (9, .int .i64 _), (47, .int .i64 _), (58, .int .i64 _)]) ⟨(hs16 0 rfl).trans rfl, (hs16 2 rfl).trans rfl, (hs16 3 rfl).trans rfl, (hs16 9 rfl).trans rfl, h47_, h58_, trivial⟩ ?_
      clear hs16 hd17 hr19 tab14
      refine RunL.cons (Op1.subN rfl rfl rfl (wrap_i64 (by omega) (by omega)) ?_)
      refine RunL.cons (Op1.assign (v := .int .i64 _) rfl ?_)
      refine RunL.nil ?_
      refine run_inBlock ?_
      refine run_region ?_
      refine RunL.cons (Op1.move (v := .int .i64 _) rfl ?_)
      refine RunL.cons (Op1.addN rfl rfl rfl (wrap_i64 (by omega) (by omega)) ?_)
      refine RunL.cons (Op1.assign (v := .int .i64 _) rfl ?_)
      refine RunL.nil ?_
      refine run_inLoop ?_
      replace hst := hst.toD (L1 := [])
      exact ih3 (i + 1) _ w (by omega) hst (by omega) ⟨rfl, rfl, rfl, trivial⟩ ⟨(congrArg (Value.int .i64) (by rw [hs]; omega)), (congrArg (Value.int .i64) (by omega)), trivial⟩
  · skip
    exfalso
    omega

theorem law28_at (l : List (Int × Int × Int)) (ao : Option Addr) (cp : Nat) (j : Nat) (hj : j < (totN l l.length).toNat) (w : World) (hA : (Res.sl ao l.length cp 56 3 (l.flatMap rowC)).holds w) (hbd : RowsBd l) :
    Ret Try.prog 50 #[.slice ao l.length cp, .int .i64 (j : Int), .int .i64 (pixAt l j).1, .int .i64 (pixAt l j).2] w fun v w' => v = .bool true ∧ St w NoM [] [] w' := by
  obtain ⟨k, x, h1, h2, h3, rfl⟩ := pixAt_ex hbd l.length (Nat.le_refl _) j (by omega)
  have hb := totN_bd hbd k (by omega)
  rw [pixAt_row hbd h1 h2 h3, Int.toNat_of_nonneg (by omega)]
  exact law28_at0 l ao cp k x h1 h2 h3 w hA hbd
set_option maxHeartbeats 1000000 in
theorem law_CoverCounts (ax ay az bx by_ bz cx cy cz : Int) (wd ht : Int) (w : World) : Ret Try.prog 20 #[.agg #[.int .i32 ax, .int .i32 ay, .int .i32 az, .int .i32 bx, .int .i32 by_, .int .i32 bz, .int .i32 cx, .int .i32 cy, .int .i32 cz], .int .i64 wd, .int .i64 ht] w (fun v w' => v = .bool true ∧ St w NoM [] [] w') := by
  refine Ret.enter (args := [.agg #[.int .i32 ax, .int .i32 ay, .int .i32 az, .int .i32 bx, .int .i32 by_, .int .i32 bz, .int .i32 cx, .int .i32 cy, .int .i32 cz], .int .i64 wd, .int .i64 ht]) Try.func20 rfl rfl rfl ?_
  have hst := St.init w
  obtain ⟨l, hl⟩ : ∃ l, covRows (clampZ ax) (clampZ ay) (clampZ bx) (clampZ by_) (clampZ cx) (clampZ cy) wd ht = l := ⟨_, rfl⟩
  have hbd := covRows_bd (clampZ ax) (clampZ ay) (clampZ bx) (clampZ by_) (clampZ cx) (clampZ cy) wd ht
  rw [hl] at hbd
  have hbd1 := hbd.1
  have hri := covRows_in hl
  refine run_seq ?_
  refine run_region ?_
  refine RunL.cons (Op1.box (v := .agg #[.int .i32 _, .int .i32 _, .int .i32 _, .int .i32 _, .int .i32 _, .int .i32 _, .int .i32 _, .int .i32 _, .int .i32 _]) hst rfl rfl fun w b3 hst => ?_)
  refine RunL.cons (Op1.box (v := .int .i64 _) hst rfl rfl fun w b4 hst => ?_)
  refine RunL.cons (Op1.box (v := .int .i64 _) hst rfl rfl fun w b5 hst => ?_)
  refine RunL.cons (Op1.alloc hst ty4 fun w b6 hst => ?_)
  refine RunL.nil ?_
  refine run_seq ?_
  refine run_region ?_
  refine RunL.cons (Op1.loadA (vs := [.int .i32 _, .int .i32 _, .int .i32 _, .int .i32 _, .int .i32 _, .int .i32 _, .int .i32 _, .int .i32 _, .int .i32 _]) ty27 rfl rfl rfl (cells_of_obj (n := 9) (hst.objL (.tail _ (.tail _ (.tail _ (.head _))))) _ rfl) ?_)
  refine RunL.cons (Op1.load1 (v := .int .i64 _) ty3 rfl rfl (hst.cellL (.tail _ (.tail _ (.head _))) rfl) ?_)
  refine RunL.cons (Op1.load1 (v := .int .i64 _) ty3 rfl rfl (hst.cellL (.tail _ (.head _)) rfl) ?_)
  refine RunL.cons (Op1.call3 (v1 := .agg #[.int .i32 _, .int .i32 _, .int .i32 _, .int .i32 _, .int .i32 _, .int .i32 _, .int .i32 _, .int .i32 _, .int .i32 _]) (v2 := .int .i64 _) (v3 := .int .i64 _) ent44 rfl rfl rfl rfl ((cov_Count2 _ _ _ _ _ _ _ _ _ _ _ _ hl).mono fun v w hp => ?_))
  obtain ⟨rfl, hp⟩ := hp
  replace hst := hst.keepc hp
  clear hp
  refine RunL.cons (Op1.move (v := .tuple #[.int .i64 _, .int .i64 _]) rfl ?_)
  refine RunL.cons (Op1.extract (v := .int .i64 _) rfl rfl ?_)
  refine RunL.cons (Op1.extract (v := .int .i64 _) rfl rfl ?_)
  refine RunL.cons (Op1.assign (v := .int .i64 _) rfl ?_)
  refine RunL.cons (Op1.assign (v := .int .i64 _) rfl ?_)
  refine RunL.nil ?_
  refine run_seq ?_
  refine run_region ?_
  refine RunL.cons (Op1.loadA (vs := [.int .i32 _, .int .i32 _, .int .i32 _, .int .i32 _, .int .i32 _, .int .i32 _, .int .i32 _, .int .i32 _, .int .i32 _]) ty27 rfl rfl rfl (cells_of_obj (n := 9) (hst.objL (.tail _ (.tail _ (.tail _ (.head _))))) _ rfl) ?_)
  refine RunL.cons (Op1.load1 (v := .int .i64 _) ty3 rfl rfl (hst.cellL (.tail _ (.tail _ (.head _))) rfl) ?_)
  refine RunL.cons (Op1.load1 (v := .int .i64 _) ty3 rfl rfl (hst.cellL (.tail _ (.head _)) rfl) ?_)
  refine RunL.cons (Op1.call3 (v1 := .agg #[.int .i32 _, .int .i32 _, .int .i32 _, .int .i32 _, .int .i32 _, .int .i32 _, .int .i32 _, .int .i32 _, .int .i32 _]) (v2 := .int .i64 _) (v3 := .int .i64 _) ent42 rfl rfl rfl rfl ((cov_Rows2 _ _ _ _ _ _ _ _ _ _ _ _ hl).mono fun v w hp => ?_))
  obtain ⟨ao1, cp1, rfl, hp⟩ := hp
  replace hst := hst.call0 hp
  clear hp
  refine RunL.cons (Op1.move (v := .tuple #[.slice _ _ _, .int .i64 _]) rfl ?_)
  refine RunL.cons (Op1.extract (v := .slice _ _ _) rfl rfl ?_)
  refine RunL.cons (Op1.extract (v := .int .i64 _) rfl rfl ?_)
  refine RunL.cons (Op1.assign (v := .slice _ _ _) rfl ?_)
  refine RunL.cons (Op1.assign (v := .int .i64 _) rfl ?_)
  refine RunL.nil ?_
  refine run_seq ?_
  refine run_seq ?_
  refine run_region ?_
  refine RunL.cons (Op1.move (v := .int .i64 _) rfl ?_)
  refine RunL.cons (Op1.move (v := .int .i64 _) rfl ?_)
  refine RunL.cons (Op1.neq rfl rfl ?_)
  refine RunL.cons (Op1.move (v := .bool _) rfl ?_)
  refine RunL.splitD (d := 33) rfl (fun g2 => ?_) (fun g2 => ?_)
  · skip
    exfalso
    exact g2 rfl
  · skip
    refine RunL.take (t := 33) rfl (congrArg Value.bool (decide_eq_false g2)) (Op1.move (v := .int .i64 _) rfl ?_)
    refine RunL.take (t := 33) rfl (congrArg Value.bool (decide_eq_false g2)) (Op1.move (v := .slice _ _ _) rfl ?_)
    refine RunL.take (t := 33) rfl (congrArg Value.bool (decide_eq_false g2)) (Op1.call1 (v1 := .slice _ _ _) ent51 rfl rfl ((law28_total _ _ _ _ (hst.hL _ (.head _)) hbd).mono fun v w hp => ?_))
    obtain ⟨rfl, hp⟩ := hp
    replace hst := hst.keepc hp
    clear hp
    refine RunL.take (t := 33) rfl (congrArg Value.bool (decide_eq_false g2)) (Op1.neq rfl rfl ?_)
    refine RunL.cons (Op1.pickF (u := .bool _) (congrArg Value.bool (decide_eq_false g2)) rfl ?_)
    refine RunL.nil ?_
    refine run_cond_dec rfl (fun g3 => ?_) (fun g3 => ?_)
    · skip
      exfalso
      exact g3 rfl
    · skip
      refine run_skip ?_
      refine run_seq ?_
      refine run_region ?_
      refine RunL.cons (Op1.alloc hst ty3 fun w b11 hst => ?_)
      refine RunL.cons (Op1.store (v := .int .i64 _) hst ty3 rfl rfl rfl rfl rfl (.here) (by repeat (first | exact Put.nil | apply Put.put | apply Put.skip)) fun w hst => ?_)
      refine RunL.nil ?_
      refine run_seq ?_
      refine run_region ?_
      refine RunL.cons (Op1.alloc hst ty3 fun w b12 hst => ?_)
      refine RunL.cons (Op1.store (v := .int .i64 _) hst ty3 rfl rfl rfl rfl rfl (.here) (by repeat (first | exact Put.nil | apply Put.put | apply Put.skip)) fun w hst => ?_)
      refine RunL.nil ?_
      refine run_seq ?_
      refine run_region ?_
      refine RunL.cons (Op1.loadA (vs := [.int .i32 _, .int .i32 _, .int .i32 _, .int .i32 _, .int .i32 _, .int .i32 _, .int .i32 _, .int .i32 _, .int .i32 _]) ty27 rfl rfl rfl (cells_of_obj (n := 9) (hst.objL (.tail _ (.tail _ (.tail _ (.tail _ (.tail _ (.tail _ (.head _)))))))) _ rfl) ?_)
      refine RunL.cons (Op1.load1 (v := .int .i64 _) ty3 rfl rfl (hst.cellL (.tail _ (.tail _ (.tail _ (.tail _ (.tail _ (.head _)))))) rfl) ?_)
      refine RunL.cons (Op1.load1 (v := .int .i64 _) ty3 rfl rfl (hst.cellL (.tail _ (.tail _ (.tail _ (.tail _ (.head _))))) rfl) ?_)
      refine RunL.cons (Op1.call3 (v1 := .agg #[.int .i32 _, .int .i32 _, .int .i32 _, .int .i32 _, .int .i32 _, .int .i32 _, .int .i32 _, .int .i32 _, .int .i32 _]) (v2 := .int .i64 _) (v3 := .int .i64 _) ent49 rfl rfl rfl rfl ((cov_Pixels _ _ _ _ _ _ _ _ _ _ _ _).mono fun v w hp => ?_))
      obtain ⟨bpt, bpw, bph, rfl, hp⟩ := hp
      replace hst := hst.call0 hp
      clear hp
      refine RunL.cons (Op1.assign (v := .func _ _ _) rfl ?_)
      refine RunL.nil ?_
      refine run_seq ?_
      refine run_seq ?_
      refine run_region ?_
      refine RunL.cons (Op1.move (v := .func _ _ _) rfl ?_)
      refine RunL.cons (Op1.eqlFn (fn := _) (a := _) (b := _) ty71 rfl rfl ?_)
      refine RunL.nil ?_
      refine run_cond_false (congrArg Value.bool (rfl : false = _)) ?_
      refine run_skip ?_
      refine run_seq ?_
      refine run_seq ?_
      refine run_region ?_
      refine RunL.cons (Op1.move (v := .func _ _ _) rfl ?_)
      refine RunL.nil ?_
      refine run_block ?_
      replace hst := hst.pick (.cons (.there (.there (.there (.there (.here))))) (.cons (.there (.there (.there (.here)))) (.cons (.here) (.cons (.here) (.cons (.here) (.cons (.here) (.cons (.here) (.cons (.here) (.cons (.here) (.cons (.here) .nil))))))))))
      refine run_rangeIter (L1 := [_, _]) (L2 := [_, _, _, _, _, _, _, _]) (item := (fun j => [.int .i64 (pixAt l j).1, .int .i64 (pixAt l j).2])) (FD := (fun b => b = bpt ∨ b = bpw ∨ b = bph)) (fun i => [Res.row b11 3 [.int .i64 (i : Int)], Res.row b12 3 [.int .i64 (lastZ l wd i)]]) (fun _ => [Res.prop False]) (fun _ => .ret) hst rfl rfl ent72 (fun b hb => .inl (by rcases hb with rfl | rfl | rfl; exact ⟨_, (.tail _ (.tail _ (.head _))), rfl⟩; exact ⟨_, (.tail _ (.head _)), rfl⟩; exact ⟨_, (.head _), rfl⟩)) (fun w1 h1 => pixels_iter _ _ _ _ _ _ _ _ _ _ _ l hl _ _ _ w1 (h1.hL _ (.tail _ (.tail _ (.tail _ (.tail _ (.head _)))))) (h1.hL _ (.tail _ (.tail _ (.tail _ (.head _))))) (h1.hL _ (.tail _ (.tail _ (.head _))))) (fun _ _ => rfl) ?_ ?_ ?_
      · intro i hi w bl br lp hlp hst hk
        have hin := pix_in hri hi
        have hlast := last_lt hri hi
        have htot := totN_bd hbd l.length (Nat.le_refl _)
        have hwb : wd ≤ 1024 ∧ ht ≤ 1024 := covRows_wd hl hi
        have hle : -1 ≤ lastZ l wd i ∧ lastZ l wd i ≤ 9999999 := last_bd hri hi hwb
        refine run_seq ?_
        refine run_region ?_
        refine RunL.cons (Op1.assign (v := .int .i64 _) rfl ?_)
        refine RunL.nil ?_
        refine run_region ?_
        refine RunL.cons (Op1.assign (v := .int .i64 _) rfl ?_)
        refine RunL.nil ?_
        refine run_beginR hlp hst (.here) fun w hst => ?_
        refine run_block ?_
        refine run_seq ?_
        refine run_seq ?_
        refine run_region ?_
        refine RunL.cons (Op1.move (v := .int .i64 _) rfl ?_)
        refine RunL.cons (Op1.lss rfl rfl ?_)
        refine RunL.cons (Op1.move (v := .bool _) rfl ?_)
        refine RunL.splitD (d := 50) rfl (fun g4 => ?_) (fun g4 => ?_)
        · skip
          exfalso
          omega
        · skip
          refine RunL.take (t := 50) rfl (congrArg Value.bool (decide_eq_false g4)) (Op1.move (v := .int .i64 _) rfl ?_)
          refine RunL.take (t := 50) rfl (congrArg Value.bool (decide_eq_false g4)) (Op1.load1 (v := .int .i64 _) ty3 rfl rfl (hst.cellD (.tail _ (.tail _ (.tail _ (.tail _ (.tail _ (.tail _ (.head _))))))) rfl) ?_)
          refine RunL.take (t := 50) rfl (congrArg Value.bool (decide_eq_false g4)) (Op1.geq rfl rfl ?_)
          refine RunL.cons (Op1.pickF (u := .bool _) (congrArg Value.bool (decide_eq_false g4)) rfl ?_)
          refine RunL.cons (Op1.move (v := .bool _) rfl ?_)
          refine RunL.splitD (d := 55) rfl (fun g5 => ?_) (fun g5 => ?_)
          · skip
            exfalso
            omega
          · skip
            refine RunL.take (t := 55) rfl (congrArg Value.bool (decide_eq_false g5)) (Op1.move (v := .int .i64 _) rfl ?_)
            refine RunL.take (t := 55) rfl (congrArg Value.bool (decide_eq_false g5)) (Op1.lss rfl rfl ?_)
            refine RunL.cons (Op1.pickF (u := .bool _) (congrArg Value.bool (decide_eq_false g5)) rfl ?_)
            refine RunL.cons (Op1.move (v := .bool _) rfl ?_)
            refine RunL.splitD (d := 59) rfl (fun g6 => ?_) (fun g6 => ?_)
            · skip
              exfalso
              omega
            · skip
              refine RunL.take (t := 59) rfl (congrArg Value.bool (decide_eq_false g6)) (Op1.move (v := .int .i64 _) rfl ?_)
              refine RunL.take (t := 59) rfl (congrArg Value.bool (decide_eq_false g6)) (Op1.load1 (v := .int .i64 _) ty3 rfl rfl (hst.cellD (.tail _ (.tail _ (.tail _ (.tail _ (.tail _ (.head _)))))) rfl) ?_)
              refine RunL.take (t := 59) rfl (congrArg Value.bool (decide_eq_false g6)) (Op1.geq rfl rfl ?_)
              refine RunL.cons (Op1.pickF (u := .bool _) (congrArg Value.bool (decide_eq_false g6)) rfl ?_)
              refine RunL.cons (Op1.move (v := .bool _) rfl ?_)
              refine RunL.splitD (d := 64) rfl (fun g7 => ?_) (fun g7 => ?_)
              · skip
                exfalso
                omega
              · skip
                refine RunL.take (t := 64) rfl (congrArg Value.bool (decide_eq_false g7)) (Op1.move (v := .int .i64 _) rfl ?_)
                refine RunL.take (t := 64) rfl (congrArg Value.bool (decide_eq_false g7)) (Op1.load1 (v := .int .i64 _) ty3 rfl rfl (hst.cellD (.tail _ (.tail _ (.tail _ (.tail _ (.tail _ (.tail _ (.head _))))))) rfl) ?_)
                first | refine RunL.take (t := 64) rfl (congrArg Value.bool (decide_eq_false g7)) (Op1.mulN rfl rfl rfl (wrap_i64 (by omega) (by omega)) ?_) | refine RunL.take (t := 64) rfl (congrArg Value.bool (decide_eq_false g7)) (Op1.mulB rfl rfl (by omega) (by omega) (by omega) (by omega) (fun hm8 hm9 => ?_))
                refine RunL.take (t := 64) rfl (congrArg Value.bool (decide_eq_false g7)) (Op1.move (v := .int .i64 _) rfl ?_)
                refine RunL.take (t := 64) rfl (congrArg Value.bool (decide_eq_false g7)) (Op1.addN rfl rfl rfl (wrap_i64 (by omega) (by omega)) ?_)
                refine RunL.take (t := 64) rfl (congrArg Value.bool (decide_eq_false g7)) (Op1.load1 (v := .int .i64 _) ty3 rfl rfl (hst.cellL (.tail _ (.tail _ (.tail _ (.head _)))) rfl) ?_)
                refine RunL.take (t := 64) rfl (congrArg Value.bool (decide_eq_false g7)) (Op1.leq rfl rfl ?_)
                refine RunL.cons (Op1.pickF (u := .bool _) (congrArg Value.bool (decide_eq_false g7)) rfl ?_)
                refine RunL.nil ?_
                refine run_cond_dec rfl (fun g10 => ?_) (fun g10 => ?_)
                · skip
                  exfalso
                  omega
                · skip
                  refine run_skip ?_
                  refine run_seq ?_
                  refine run_region ?_
                  refine RunL.cons (Op1.move (v := .int .i64 _) rfl ?_)
                  refine RunL.cons (Op1.load1 (v := .int .i64 _) ty3 rfl rfl (hst.cellD (.tail _ (.tail _ (.tail _ (.tail _ (.tail _ (.tail _ (.head _))))))) rfl) ?_)
                  first | refine RunL.cons (Op1.mulN rfl rfl rfl (wrap_i64 (by omega) (by omega)) ?_) | refine RunL.cons (Op1.mulB rfl rfl (by omega) (by omega) (by omega) (by omega) (fun hm11 hm12 => ?_))
                  refine RunL.cons (Op1.move (v := .int .i64 _) rfl ?_)
                  refine RunL.cons (Op1.addN rfl rfl rfl (wrap_i64 (by omega) (by omega)) ?_)
                  refine RunL.cons (Op1.store (v := .int .i64 _) hst ty3 rfl rfl rfl rfl rfl (.there (.there (.there (.here)))) (by repeat (first | exact Put.nil | apply Put.put | apply Put.skip)) fun w hst => ?_)
                  refine RunL.nil ?_
                  refine run_region ?_
                  refine RunL.cons (Op1.load1 (v := .int .i64 _) ty3 rfl rfl (hst.cellL (.tail _ (.tail _ (.head _))) rfl) ?_)
                  refine RunL.cons (Op1.addN rfl rfl rfl (wrap_i64 (by omega) (by omega)) ?_)
                  refine RunL.cons (Op1.store (v := .int .i64 _) hst ty3 rfl rfl rfl rfl rfl (.there (.there (.here))) (by repeat (first | exact Put.nil | apply Put.put | apply Put.skip)) fun w hst => ?_)
                  refine RunL.nil ?_
                  refine run_inBlock ?_
                  refine run_endR hlp hst (.here) fun w hst => ?_
                  replace hst := hst.pick (.cons (.here) (.cons (.here) (.cons (.here) (.cons (.here) .nil))))
                  exact .inl ⟨rfl, _, hst⟩
      · intro w bl br lp hst
        have htot := totN_bd hbd l.length (Nat.le_refl _)
        refine run_inBlock ?_
        refine run_seq ?_
        refine run_region ?_
        refine RunL.cons (Op1.load1 (v := .int .i64 _) ty3 rfl rfl (hst.cellL (.tail _ (.tail _ (.head _))) rfl) ?_)
        refine RunL.cons (Op1.move (v := .int .i64 _) rfl ?_)
        refine RunL.cons (Op1.eql rfl rfl ?_)
        refine RunL.cons (Op1.move (v := .bool _) rfl ?_)
        refine RunL.splitD (d := 83) rfl (fun g13 => ?_) (fun g13 => ?_)
        · skip
          refine RunL.take (t := 83) rfl (congrArg Value.bool (decide_eq_true g13)) (Op1.call0  ent40 rfl  ((law28_awake _).mono fun v w hp => ?_))
          obtain ⟨rfl, hp⟩ := hp
          replace hst := hst.keepc hp
          clear hp
          refine RunL.cons (Op1.pickT (u := .bool _) (congrArg Value.bool (decide_eq_true g13)) rfl ?_)
          refine RunL.cons (Op1.store (v := .bool _) hst ty4 rfl rfl rfl rfl rfl (.there (.there (.there (.there (.there (.there (.there (.there (.here))))))))) (by repeat (first | exact Put.nil | apply Put.put | apply Put.skip)) fun w hst => ?_)
          refine RunL.nil ?_
          refine run_ret_mark Try.func20 hst (.there (.here)) fun w hst => ⟨_, res1 rfl (RV.cell1 (v := .bool _) rfl ty4 rfl (hst.cellL (.tail _ (.tail _ (.tail _ (.tail _ (.tail _ (.tail _ (.tail _ (.tail _ (.head _))))))))) rfl)), ?_⟩
          exact ⟨rfl, hst.pure⟩
        · skip
          exfalso
          omega
      · intro i hi w bl br lp hst
        exact (hst.hL _ (.tail _ (.tail _ (.head _))) : False).elim

set_option maxHeartbeats 1000000 in
theorem law_CoverPixels (ax ay az bx by_ bz cx cy cz : Int) (wd ht stop : Int) (w : World) : Ret Try.prog 19 #[.agg #[.int .i32 ax, .int .i32 ay, .int .i32 az, .int .i32 bx, .int .i32 by_, .int .i32 bz, .int .i32 cx, .int .i32 cy, .int .i32 cz], .int .i64 wd, .int .i64 ht, .int .i64 stop] w (fun v w' => v = .bool true ∧ St w NoM [] [] w') := by
  refine Ret.enter (args := [.agg #[.int .i32 ax, .int .i32 ay, .int .i32 az, .int .i32 bx, .int .i32 by_, .int .i32 bz, .int .i32 cx, .int .i32 cy, .int .i32 cz], .int .i64 wd, .int .i64 ht, .int .i64 stop]) Try.func19 rfl rfl rfl ?_
  have hst := St.init w
  obtain ⟨l, hl⟩ : ∃ l, covRows (clampZ ax) (clampZ ay) (clampZ bx) (clampZ by_) (clampZ cx) (clampZ cy) wd ht = l := ⟨_, rfl⟩
  have hbd := covRows_bd (clampZ ax) (clampZ ay) (clampZ bx) (clampZ by_) (clampZ cx) (clampZ cy) wd ht
  rw [hl] at hbd
  have hbd1 := hbd.1
  have hri := covRows_in hl
  refine run_seq ?_
  refine run_region ?_
  refine RunL.cons (Op1.box (v := .agg #[.int .i32 _, .int .i32 _, .int .i32 _, .int .i32 _, .int .i32 _, .int .i32 _, .int .i32 _, .int .i32 _, .int .i32 _]) hst rfl rfl fun w b4 hst => ?_)
  refine RunL.cons (Op1.box (v := .int .i64 _) hst rfl rfl fun w b7 hst => ?_)
  refine RunL.cons (Op1.alloc hst ty4 fun w b8 hst => ?_)
  refine RunL.nil ?_
  refine run_seq ?_
  refine run_region ?_
  refine RunL.cons (Op1.loadA (vs := [.int .i32 _, .int .i32 _, .int .i32 _, .int .i32 _, .int .i32 _, .int .i32 _, .int .i32 _, .int .i32 _, .int .i32 _]) ty27 rfl rfl rfl (cells_of_obj (n := 9) (hst.objL (.tail _ (.tail _ (.head _)))) _ rfl) ?_)
  refine RunL.cons (Op1.move (v := .int .i64 _) rfl ?_)
  refine RunL.cons (Op1.move (v := .int .i64 _) rfl ?_)
  refine RunL.cons (Op1.call3 (v1 := .agg #[.int .i32 _, .int .i32 _, .int .i32 _, .int .i32 _, .int .i32 _, .int .i32 _, .int .i32 _, .int .i32 _, .int .i32 _]) (v2 := .int .i64 _) (v3 := .int .i64 _) ent41 rfl rfl rfl rfl ((ref_Rows282 _ _ _ _ _ _ _ _ _ _ _ _ hl).mono fun v w hp => ?_))
  obtain ⟨ao1, cp1, rfl, hp⟩ := hp
  replace hst := hst.call0 hp
  clear hp
  refine RunL.cons (Op1.move (v := .tuple #[.slice _ _ _, .int .i64 _]) rfl ?_)
  refine RunL.cons (Op1.extract (v := .slice _ _ _) rfl rfl ?_)
  refine RunL.cons (Op1.extract (v := .int .i64 _) rfl rfl ?_)
  refine RunL.cons (Op1.alloc hst ty50 fun w b9 hst => ?_)
  refine RunL.cons (Op1.store (v := .slice _ _ _) hst ty50 rfl rfl rfl rfl rfl (.here) (by repeat (first | exact Put.nil | apply Put.put | apply Put.skip)) fun w hst => ?_)
  refine RunL.cons (Op1.assign (v := .int .i64 _) rfl ?_)
  refine RunL.nil ?_
  refine run_seq ?_
  refine run_region ?_
  refine RunL.cons (Op1.loadA (vs := [.int .i32 _, .int .i32 _, .int .i32 _, .int .i32 _, .int .i32 _, .int .i32 _, .int .i32 _, .int .i32 _, .int .i32 _]) ty27 rfl rfl rfl (cells_of_obj (n := 9) (hst.objL (.tail _ (.tail _ (.tail _ (.tail _ (.head _)))))) _ rfl) ?_)
  refine RunL.cons (Op1.move (v := .int .i64 _) rfl ?_)
  refine RunL.cons (Op1.move (v := .int .i64 _) rfl ?_)
  refine RunL.cons (Op1.call3 (v1 := .agg #[.int .i32 _, .int .i32 _, .int .i32 _, .int .i32 _, .int .i32 _, .int .i32 _, .int .i32 _, .int .i32 _, .int .i32 _]) (v2 := .int .i64 _) (v3 := .int .i64 _) ent49 rfl rfl rfl rfl ((cov_Pixels _ _ _ _ _ _ _ _ _ _ _ _).mono fun v w hp => ?_))
  obtain ⟨bpt, bpw, bph, rfl, hp⟩ := hp
  replace hst := hst.call0 hp
  clear hp
  refine RunL.cons (Op1.assign (v := .func _ _ _) rfl ?_)
  refine RunL.nil ?_
  refine run_seq ?_
  refine run_seq ?_
  refine run_region ?_
  refine RunL.cons (Op1.move (v := .func _ _ _) rfl ?_)
  refine RunL.cons (Op1.eqlFn (fn := _) (a := _) (b := _) ty71 rfl rfl ?_)
  refine RunL.nil ?_
  refine run_cond_false (congrArg Value.bool (rfl : false = _)) ?_
  refine run_skip ?_
  refine run_seq ?_
  refine run_region ?_
  refine RunL.cons (Op1.alloc hst ty3 fun w b12 hst => ?_)
  refine RunL.cons (Op1.store (v := .int .i64 _) hst ty3 rfl rfl rfl rfl rfl (.here) (by repeat (first | exact Put.nil | apply Put.put | apply Put.skip)) fun w hst => ?_)
  refine RunL.nil ?_
  refine run_seq ?_
  refine run_seq ?_
  refine run_region ?_
  refine RunL.cons (Op1.move (v := .func _ _ _) rfl ?_)
  refine RunL.nil ?_
  refine run_block ?_
  replace hst := hst.pick (.cons (.here) (.cons (.here) (.cons (.here) (.cons (.here) (.cons (.here) (.cons (.here) (.cons (.here) (.cons (.here) (.cons (.here) .nil)))))))))
  refine run_rangeIter (L1 := [_]) (L2 := [_, _, _, _, _, _, _, _]) (item := (fun j => [.int .i64 (pixAt l j).1, .int .i64 (pixAt l j).2])) (FD := (fun b => b = bpt ∨ b = bpw ∨ b = bph)) (fun i => [Res.row b12 3 [.int .i64 (i : Int)]]) (fun i => [Res.prop ((i : Int) + 1 = stop), Res.row b12 3 [.int .i64 ((i : Int) + 1)]]) (fun _ => .exit 0) hst rfl rfl ent72 (fun b hb => .inl (by rcases hb with rfl | rfl | rfl; exact ⟨_, (.tail _ (.tail _ (.head _))), rfl⟩; exact ⟨_, (.tail _ (.head _)), rfl⟩; exact ⟨_, (.head _), rfl⟩)) (fun w1 h1 => pixels_iter _ _ _ _ _ _ _ _ _ _ _ l hl _ _ _ w1 (h1.hL _ (.tail _ (.tail _ (.tail _ (.head _))))) (h1.hL _ (.tail _ (.tail _ (.head _)))) (h1.hL _ (.tail _ (.head _)))) (fun _ _ => rfl) ?_ ?_ ?_
  · intro i hi w bl br lp hlp hst hk
    have htot := totN_bd hbd l.length (Nat.le_refl _)
    refine run_seq ?_
    refine run_region ?_
    refine RunL.cons (Op1.assign (v := .int .i64 _) rfl ?_)
    refine RunL.nil ?_
    refine run_region ?_
    refine RunL.cons (Op1.assign (v := .int .i64 _) rfl ?_)
    refine RunL.nil ?_
    refine run_beginR hlp hst (.here) fun w hst => ?_
    refine run_block ?_
    refine run_seq ?_
    refine run_seq ?_
    refine run_region ?_
    refine RunL.cons (Op1.load1 (v := .slice _ _ _) ty50 rfl rfl (hst.cellD (.tail _ (.tail _ (.tail _ (.head _)))) rfl) ?_)
    refine RunL.cons (Op1.load1 (v := .int .i64 _) ty3 rfl rfl (hst.cellL (.tail _ (.tail _ (.head _))) rfl) ?_)
    refine RunL.cons (Op1.move (v := .int .i64 _) rfl ?_)
    refine RunL.cons (Op1.move (v := .int .i64 _) rfl ?_)
    refine RunL.cons (Op1.call4 (v1 := .slice _ _ _) (v2 := .int .i64 _) (v3 := .int .i64 _) (v4 := .int .i64 _) ent50 rfl rfl rfl rfl rfl ((law28_at _ _ _ _ (by omega) _ (hst.hD _ (.tail _ (.tail _ (.tail _ (.tail _ (.head _)))))) hbd).mono fun v w hp => ?_))
    obtain ⟨rfl, hp⟩ := hp
    replace hst := hst.keepc hp
    clear hp
    refine RunL.cons (Op1.not rfl ?_)
    refine RunL.nil ?_
    refine run_cond_false (congrArg Value.bool (congrArg not (rfl : true = _))) ?_
    refine run_skip ?_
    refine run_seq ?_
    refine run_region ?_
    refine RunL.cons (Op1.load1 (v := .int .i64 _) ty3 rfl rfl (hst.cellL (.tail _ (.tail _ (.head _))) rfl) ?_)
    refine RunL.cons (Op1.addN rfl rfl rfl (wrap_i64 (by omega) (by omega)) ?_)
    refine RunL.cons (Op1.store (v := .int .i64 _) hst ty3 rfl rfl rfl rfl rfl (.there (.there (.here))) (by repeat (first | exact Put.nil | apply Put.put | apply Put.skip)) fun w hst => ?_)
    refine RunL.nil ?_
    refine run_seq ?_
    refine run_region ?_
    refine RunL.cons (Op1.load1 (v := .int .i64 _) ty3 rfl rfl (hst.cellL (.tail _ (.tail _ (.head _))) rfl) ?_)
    refine RunL.cons (Op1.load1 (v := .int .i64 _) ty3 rfl rfl (hst.cellD (.tail _ (.tail _ (.tail _ (.tail _ (.tail _ (.tail _ (.head _))))))) rfl) ?_)
    refine RunL.cons (Op1.eql rfl rfl ?_)
    refine RunL.nil ?_
    refine run_cond_dec rfl (fun g2 => ?_) (fun g2 => ?_)
    · skip
      refine run_exitR rfl hst (.here) fun w hst => ?_
      replace hst := hst.addProp (p := (i : Int) + 1 = stop) (by omega)
      replace hst := hst.pick (.cons (.there (.here)) (.cons (.there (.here)) (.cons (.here) (.cons (.here) .nil))))
      exact .inr ⟨rfl, _, hst⟩
    · skip
      refine run_skip ?_
      refine run_inBlock ?_
      refine run_endR hlp hst (.here) fun w hst => ?_
      replace hst := hst.pick (.cons (.here) (.cons (.here) (.cons (.here) .nil)))
      exact .inl ⟨rfl, _, hst⟩
  · intro w bl br lp hst
    have htot := totN_bd hbd l.length (Nat.le_refl _)
    refine run_inBlock ?_
    refine run_seq ?_
    refine run_seq ?_
    refine RunD.start [] hst (bs := [0, 0, 2, 7, 15, 31, 31, 127, 255]) (ds := [some 44, some 45, some 46, some 47, some 48, some 49, some 50, some 51, some 52]) ⟨by kernel_rfl, by kernel_rfl, by kernel_rfl⟩ (fun tab3 => ?_)
    refine RunD.op (det _) tab3 1 (fun f' L' w' hc => Op1.load1 (v := .int .i64 _) ty3 rfl (hc.old (v := .pointer (some ⟨_, _, none⟩)) rfl rfl rfl) (hc.st.cellL (List.mem_append_right _ (.tail _ (.tail _ (.head _)))) rfl) ⟨[], ⟨rfl, rfl⟩, hc.st⟩) ?_
    refine RunD.op (det _) tab3 2 (fun f' L' w' hc => Op1.load1 (v := .slice _ _ _) ty50 rfl (hc.old (v := .pointer (some ⟨_, _, none⟩)) rfl rfl rfl) (hc.st.cellL (List.mem_append_right _ (.tail _ (.tail _ (.tail _ (.tail _ (.tail _ (.tail _ (.head _)))))))) rfl) ⟨[], ⟨rfl, rfl⟩, hc.st⟩) ?_
    refine RunD.op (det _) tab3 3 (fun f' L' w' hc => Op1.call1 (v1 := .slice _ _ _) ent51 rfl (hc.det (j := 1) rfl rfl rfl rfl) ((law28_total _ _ _ _ (hc.st.hL _ (List.mem_append_right _ (.tail _ (.tail _ (.tail _ (.tail _ (.tail _ (.tail _ (.tail _ (.head _)))))))))) hbd).mono fun v w hp => ⟨[], ⟨hp.1, rfl⟩, hc.st.keepc hp.2⟩)) ?_
    refine RunD.op (det _) tab3 4 (fun f' L' w' hc => Op1.neq (hc.det (j := 0) rfl rfl rfl rfl) (hc.det (j := 2) rfl rfl rfl rfl) ⟨[], ⟨rfl, rfl⟩, hc.st⟩) ?_
    refine RunD.op (det _) tab3 5 (fun f' L' w' hc => Op1.move (v := .bool _) (hc.det (j := 3) rfl rfl rfl rfl) ⟨[], ⟨rfl, rfl⟩, hc.st⟩) ?_
    refine RunD.splitD (j := 4) rfl (fun g4 => ?_) (fun g4 => ?_)
    · skip
      exfalso
      omega
    · skip
      refine RunD.omit tab3 6 rfl rfl (fun f' L' w' hc => (hc.det (j := 4) rfl rfl rfl rfl).trans (congrArg Value.bool (decide_eq_false g4))) ?_
      refine RunD.omit tab3 7 rfl rfl (fun f' L' w' hc => (hc.det (j := 4) rfl rfl rfl rfl).trans (congrArg Value.bool (decide_eq_false g4))) ?_
      refine RunD.fin followsMixed tab3 hst rfl (fun f5 w R8 hs6 hd7 hr9 hst => ?_)
      obtain ⟨h44_, r0⟩ := hd7 0 44 rfl rfl
      obtain ⟨h45_, r1⟩ := hd7 1 45 rfl rfl
      obtain ⟨h46_, r2⟩ := hd7 2 46 rfl rfl
      obtain ⟨h47_, r3⟩ := hd7 3 47 rfl rfl
      obtain ⟨h48_, r4⟩ := hd7 4 48 rfl rfl
      obtain ⟨h49_, r5⟩ := hd7 5 49 rfl rfl
      obtain ⟨h50_, r6⟩ := hd7 6 50 rfl rfl
      simp only [show List.range 7 = [0, 1, 2, 3, 4, 5, 6] from rfl, List.flatMap_cons, List.flatMap_nil, List.map_cons, List.map_nil, r0, r1, r2, r3, r4, r5, r6, List.nil_append, List.append_nil, List.cons_append] at hst
      refine RunL.slots (sl := [(8, .pointer (some ⟨_, _, none⟩)), (9, .pointer (some ⟨_, _, none⟩)), (11, .func _ _ _), (12, .pointer (some ⟨_, _, none⟩)), (48, .bool _), (49, _), (50, _)]) ⟨(hs6 8 rfl).trans rfl, (hs6 9 rfl).trans rfl, (hs6 11 rfl).trans rfl, (hs6 12 rfl).trans rfl, h48_, h49_, h50_, trivial⟩ ?_
      clear hs6 hd7 hr9 tab3
      refine RunL.omit (t := 48) rfl (congrArg Value.bool (decide_eq_false g4)) rfl ?_
      refine RunL.cons (Op1.pickF (u := .bool _) (congrArg Value.bool (decide_eq_false g4)) rfl ?_)
      refine RunL.nil ?_
      refine run_cond_false (congrArg Value.bool (rfl : false = _)) ?_
      refine run_skip ?_
      refine run_seq ?_
      refine run_region ?_
      refine RunL.cons (Op1.store (v := .int .i64 _) hst ty3 rfl rfl rfl rfl rfl (.there (.there (.here))) (by repeat (first | exact Put.nil | apply Put.put | apply Put.skip)) fun w hst => ?_)
      refine RunL.nil ?_
      refine run_seq ?_
      refine run_seq ?_
      refine run_region ?_
      refine RunL.cons (Op1.move (v := .func _ _ _) rfl ?_)
      refine RunL.nil ?_
      refine run_block ?_
      replace hst := hst.pick (.cons (.there (.there (.here))) (.cons (.here) (.cons (.here) (.cons (.here) (.cons (.here) (.cons (.here) (.cons (.here) (.cons (.here) (.cons (.here) (.cons (.here) (.cons (.here) .nil)))))))))))
      refine run_rangeIter (L1 := [_]) (L2 := [_, _, _, _, _, _, _, _, _, _]) (item := (fun j => [.int .i64 (pixAt l j).1, .int .i64 (pixAt l j).2])) (FD := (fun b => b = bpt ∨ b = bpw ∨ b = bph)) (fun i => [Res.row b12 3 [.int .i64 (i : Int)]]) (fun _ => [Res.prop False]) (fun _ => .ret) hst rfl rfl ent72 (fun b hb => .inl (by rcases hb with rfl | rfl | rfl; exact ⟨_, (.tail _ (.tail _ (.tail _ (.tail _ (.head _))))), rfl⟩; exact ⟨_, (.tail _ (.tail _ (.tail _ (.head _)))), rfl⟩; exact ⟨_, (.tail _ (.tail _ (.head _))), rfl⟩)) (fun w1 h1 => pixels_iter _ _ _ _ _ _ _ _ _ _ _ l hl _ _ _ w1 (h1.hL _ (.tail _ (.tail _ (.tail _ (.tail _ (.tail _ (.head _))))))) (h1.hL _ (.tail _ (.tail _ (.tail _ (.tail _ (.head _)))))) (h1.hL _ (.tail _ (.tail _ (.tail _ (.head _)))))) (fun _ _ => rfl) ?_ ?_ ?_
      · intro j hj w bl2 br2 lp hlp hst hk
        refine run_seq ?_
        refine run_region ?_
        refine RunL.cons (Op1.assign (v := .int .i64 _) rfl ?_)
        refine RunL.nil ?_
        refine run_region ?_
        refine RunL.cons (Op1.assign (v := .int .i64 _) rfl ?_)
        refine RunL.nil ?_
        refine run_beginR hlp hst (.here) fun w hst => ?_
        refine run_block ?_
        refine run_seq ?_
        refine run_seq ?_
        refine run_region ?_
        refine RunL.cons (Op1.load1 (v := .int .i64 _) ty3 rfl rfl (hst.cellL (.tail _ (.tail _ (.head _))) rfl) ?_)
        refine RunL.cons (Op1.lss rfl rfl ?_)
        refine RunL.cons (Op1.move (v := .bool _) rfl ?_)
        refine RunL.splitD (d := 58) rfl (fun g10 => ?_) (fun g10 => ?_)
        · skip
          refine RunL.take (t := 58) rfl (congrArg Value.bool (decide_eq_true g10)) (Op1.load1 (v := .slice _ _ _) ty50 rfl rfl (hst.cellD (.tail _ (.tail _ (.tail _ (.tail _ (.tail _ (.head _)))))) rfl) ?_)
          refine RunL.take (t := 58) rfl (congrArg Value.bool (decide_eq_true g10)) (Op1.load1 (v := .int .i64 _) ty3 rfl rfl (hst.cellL (.tail _ (.tail _ (.head _))) rfl) ?_)
          refine RunL.take (t := 58) rfl (congrArg Value.bool (decide_eq_true g10)) (Op1.move (v := .int .i64 _) rfl ?_)
          refine RunL.take (t := 58) rfl (congrArg Value.bool (decide_eq_true g10)) (Op1.move (v := .int .i64 _) rfl ?_)
          refine RunL.take (t := 58) rfl (congrArg Value.bool (decide_eq_true g10)) (Op1.call4 (v1 := .slice _ _ _) (v2 := .int .i64 _) (v3 := .int .i64 _) (v4 := .int .i64 _) ent50 rfl rfl rfl rfl rfl ((law28_at _ _ _ _ (by omega) _ (hst.hD _ (.tail _ (.tail _ (.tail _ (.tail _ (.tail _ (.tail _ (.head _)))))))) hbd).mono fun v w hp => ?_))
          obtain ⟨rfl, hp⟩ := hp
          replace hst := hst.keepc hp
          clear hp
          refine RunL.take (t := 58) rfl (congrArg Value.bool (decide_eq_true g10)) (Op1.not rfl ?_)
          refine RunL.cons (Op1.pickT (u := .bool _) (congrArg Value.bool (decide_eq_true g10)) rfl ?_)
          refine RunL.nil ?_
          refine run_cond_false (congrArg Value.bool (congrArg not (rfl : true = _))) ?_
          refine run_skip ?_
          refine run_region ?_
          refine RunL.cons (Op1.load1 (v := .int .i64 _) ty3 rfl rfl (hst.cellL (.tail _ (.tail _ (.head _))) rfl) ?_)
          refine RunL.cons (Op1.addN rfl rfl rfl (wrap_i64 (by omega) (by omega)) ?_)
          refine RunL.cons (Op1.store (v := .int .i64 _) hst ty3 rfl rfl rfl rfl rfl (.there (.there (.here))) (by repeat (first | exact Put.nil | apply Put.put | apply Put.skip)) fun w hst => ?_)
          refine RunL.nil ?_
          refine run_inBlock ?_
          refine run_endR hlp hst (.here) fun w hst => ?_
          replace hst := hst.pick (.cons (.here) (.cons (.here) (.cons (.here) .nil)))
          exact .inl ⟨rfl, _, hst⟩
        · skip
          refine RunL.omit (t := 58) rfl (congrArg Value.bool (decide_eq_false g10)) rfl ?_
          refine RunL.omit (t := 58) rfl (congrArg Value.bool (decide_eq_false g10)) rfl ?_
          refine RunL.omit (t := 58) rfl (congrArg Value.bool (decide_eq_false g10)) rfl ?_
          refine RunL.omit (t := 58) rfl (congrArg Value.bool (decide_eq_false g10)) rfl ?_
          refine RunL.omit (t := 58) rfl (congrArg Value.bool (decide_eq_false g10)) rfl ?_
          refine RunL.omit (t := 58) rfl (congrArg Value.bool (decide_eq_false g10)) rfl ?_
          refine RunL.cons (Op1.pickF (u := .bool _) (congrArg Value.bool (decide_eq_false g10)) rfl ?_)
          refine RunL.nil ?_
          refine run_cond_false (congrArg Value.bool (rfl : false = _)) ?_
          refine run_skip ?_
          refine run_region ?_
          refine RunL.cons (Op1.load1 (v := .int .i64 _) ty3 rfl rfl (hst.cellL (.tail _ (.tail _ (.head _))) rfl) ?_)
          refine RunL.cons (Op1.addN rfl rfl rfl (wrap_i64 (by omega) (by omega)) ?_)
          refine RunL.cons (Op1.store (v := .int .i64 _) hst ty3 rfl rfl rfl rfl rfl (.there (.there (.here))) (by repeat (first | exact Put.nil | apply Put.put | apply Put.skip)) fun w hst => ?_)
          refine RunL.nil ?_
          refine run_inBlock ?_
          refine run_endR hlp hst (.here) fun w hst => ?_
          replace hst := hst.pick (.cons (.here) (.cons (.here) (.cons (.here) .nil)))
          exact .inl ⟨rfl, _, hst⟩
      · intro w bl2 br2 lp hst
        refine run_inBlock ?_
        refine run_seq ?_
        refine RunD.start [] hst (bs := [0, 0, 2, 7, 15, 31, 63, 127]) (ds := [some 68, some 69, some 70, some 71, some 72, some 73, some 74, none]) ⟨by kernel_rfl, by kernel_rfl, by kernel_rfl⟩ (fun tab11 => ?_)
        refine RunD.op (det _) tab11 1 (fun f' L' w' hc => Op1.load1 (v := .int .i64 _) ty3 rfl (hc.old (v := .pointer (some ⟨_, _, none⟩)) rfl rfl rfl) (hc.st.cellL (List.mem_append_right _ (.tail _ (.tail _ (.head _)))) rfl) ⟨[], ⟨rfl, rfl⟩, hc.st⟩) ?_
        refine RunD.op (det _) tab11 2 (fun f' L' w' hc => Op1.load1 (v := .slice _ _ _) ty50 rfl (hc.old (v := .pointer (some ⟨_, _, none⟩)) rfl rfl rfl) (hc.st.cellL (List.mem_append_right _ (.tail _ (.tail _ (.tail _ (.tail _ (.tail _ (.tail _ (.tail _ (.tail _ (.head _)))))))))) rfl) ⟨[], ⟨rfl, rfl⟩, hc.st⟩) ?_
        refine RunD.op (det _) tab11 3 (fun f' L' w' hc => Op1.call1 (v1 := .slice _ _ _) ent51 rfl (hc.det (j := 1) rfl rfl rfl rfl) ((law28_total _ _ _ _ (hc.st.hL _ (List.mem_append_right _ (.tail _ (.tail _ (.tail _ (.tail _ (.tail _ (.tail _ (.tail _ (.tail _ (.tail _ (.head _)))))))))))) hbd).mono fun v w hp => ⟨[], ⟨hp.1, rfl⟩, hc.st.keepc hp.2⟩)) ?_
        refine RunD.fin followsMixed tab11 hst rfl (fun f12 w R15 hs13 hd14 hr16 hst => ?_)
        obtain ⟨h68_, r0⟩ := hd14 0 68 rfl rfl
        obtain ⟨h69_, r1⟩ := hd14 1 69 rfl rfl
        obtain ⟨h70_, r2⟩ := hd14 2 70 rfl rfl
        simp only [show List.range 3 = [0, 1, 2] from rfl, List.flatMap_cons, List.flatMap_nil, List.map_cons, List.map_nil, r0, r1, r2, List.nil_append, List.append_nil, List.cons_append] at hst
        refine RunL.slots (sl := [(8, .pointer (some ⟨_, _, none⟩)), (68, .int .i64 _), (70, .int .i64 _)]) ⟨(hs13 8 rfl).trans rfl, h68_, h70_, trivial⟩ ?_
        clear hs13 hd14 hr16 tab11
        refine RunL.cons (Op1.eql rfl rfl ?_)
        refine RunL.cons (Op1.move (v := .bool _) rfl ?_)
        refine RunL.splitD (d := 72) rfl (fun g17 => ?_) (fun g17 => ?_)
        · skip
          refine RunL.take (t := 72) rfl (congrArg Value.bool (decide_eq_true g17)) (Op1.call0  ent40 rfl  ((law28_awake _).mono fun v w hp => ?_))
          obtain ⟨rfl, hp⟩ := hp
          replace hst := hst.keepc hp
          clear hp
          refine RunL.cons (Op1.pickT (u := .bool _) (congrArg Value.bool (decide_eq_true g17)) rfl ?_)
          refine RunL.cons (Op1.store (v := .bool _) hst ty4 rfl rfl rfl rfl rfl (.there (.there (.there (.there (.there (.there (.there (.there (.there (.there (.here))))))))))) (by repeat (first | exact Put.nil | apply Put.put | apply Put.skip)) fun w hst => ?_)
          refine RunL.nil ?_
          replace hst := hst.pick (.cons (.there (.here)) (.cons (.there (.there (.there (.here)))) (.cons (.here) (.cons (.here) (.cons (.here) (.cons (.here) (.cons (.here) (.cons (.here) (.cons (.here) (.cons (.here) (.cons (.here) (.cons (.here) (.cons (.here) .nil)))))))))))))
          refine run_ret_marks [br2, br] Try.func19 hst fun w hst => ⟨_, res1 rfl (RV.cell1 (v := .bool _) rfl ty4 rfl (hst.cellL (.tail _ (.tail _ (.tail _ (.tail _ (.tail _ (.tail _ (.tail _ (.tail _ (.head _))))))))) rfl)), ?_⟩
          exact ⟨rfl, hst.pure⟩
        · skip
          exfalso
          omega
      · intro j hj w bl2 br2 lp hst
        exact (hst.hL _ (.tail _ (.tail _ (.head _))) : False).elim
  · intro i hi w bl br lp hst
    have htot := totN_bd hbd l.length (Nat.le_refl _)
    have hs1 : (i : Int) + 1 = stop := hst.hL _ (.tail _ (.tail _ (.head _)))
    refine run_exit (id := 0) rfl ?_
    refine run_seq ?_
    refine run_seq ?_
    refine RunD.start [] hst (bs := [0, 0, 2, 7, 15, 31, 31, 127, 255]) (ds := [some 44, some 45, some 46, some 47, some 48, some 49, some 50, some 51, some 52]) ⟨by kernel_rfl, by kernel_rfl, by kernel_rfl⟩ (fun tab18 => ?_)
    refine RunD.op (det _) tab18 1 (fun f' L' w' hc => Op1.load1 (v := .int .i64 _) ty3 rfl (hc.old (v := .pointer (some ⟨_, _, none⟩)) rfl rfl rfl) (hc.st.cellL (List.mem_append_right _ (.tail _ (.tail _ (.tail _ (.head _))))) rfl) ⟨[], ⟨rfl, rfl⟩, hc.st⟩) ?_
    refine RunD.op (det _) tab18 2 (fun f' L' w' hc => Op1.load1 (v := .slice _ _ _) ty50 rfl (hc.old (v := .pointer (some ⟨_, _, none⟩)) rfl rfl rfl) (hc.st.cellL (List.mem_append_right _ (.tail _ (.tail _ (.tail _ (.tail _ (.tail _ (.tail _ (.tail _ (.head _))))))))) rfl) ⟨[], ⟨rfl, rfl⟩, hc.st⟩) ?_
    refine RunD.op (det _) tab18 3 (fun f' L' w' hc => Op1.call1 (v1 := .slice _ _ _) ent51 rfl (hc.det (j := 1) rfl rfl rfl rfl) ((law28_total _ _ _ _ (hc.st.hL _ (List.mem_append_right _ (.tail _ (.tail _ (.tail _ (.tail _ (.tail _ (.tail _ (.tail _ (.tail _ (.head _))))))))))) hbd).mono fun v w hp => ⟨[], ⟨hp.1, rfl⟩, hc.st.keepc hp.2⟩)) ?_
    refine RunD.op (det _) tab18 4 (fun f' L' w' hc => Op1.neq (hc.det (j := 0) rfl rfl rfl rfl) (hc.det (j := 2) rfl rfl rfl rfl) ⟨[], ⟨rfl, rfl⟩, hc.st⟩) ?_
    refine RunD.op (det _) tab18 5 (fun f' L' w' hc => Op1.move (v := .bool _) (hc.det (j := 3) rfl rfl rfl rfl) ⟨[], ⟨rfl, rfl⟩, hc.st⟩) ?_
    refine RunD.splitD (j := 4) rfl (fun g19 => ?_) (fun g19 => ?_)
    · skip
      refine RunD.take (det _) tab18 6 rfl (fun f' L' w' hc => (hc.det (j := 4) rfl rfl rfl rfl).trans (congrArg Value.bool (decide_eq_true g19))) (fun f' L' w' hc => Op1.load1 (v := .int .i64 _) ty3 rfl (hc.old (v := .pointer (some ⟨_, _, none⟩)) rfl rfl rfl) (hc.st.cellL (List.mem_append_right _ (.tail _ (.tail _ (.tail _ (.head _))))) rfl) ⟨[], ⟨rfl, rfl⟩, hc.st⟩) ?_
      refine RunD.take (det _) tab18 7 rfl (fun f' L' w' hc => (hc.det (j := 4) rfl rfl rfl rfl).trans (congrArg Value.bool (decide_eq_true g19))) (fun f' L' w' hc => Op1.load1 (v := .int .i64 _) ty3 rfl (hc.old (v := .pointer (some ⟨_, _, none⟩)) rfl rfl rfl) (hc.st.cellL (List.mem_append_right _ (.tail _ (.tail _ (.tail _ (.tail _ (.tail _ (.tail _ (.tail _ (.tail _ (.tail _ (.tail _ (.head _)))))))))))) rfl) ⟨[], ⟨rfl, rfl⟩, hc.st⟩) ?_
      refine RunD.fin followsMixed tab18 hst rfl (fun f20 w R23 hs21 hd22 hr24 hst => ?_)
      obtain ⟨h44_, r0⟩ := hd22 0 44 rfl rfl
      obtain ⟨h45_, r1⟩ := hd22 1 45 rfl rfl
      obtain ⟨h46_, r2⟩ := hd22 2 46 rfl rfl
      obtain ⟨h47_, r3⟩ := hd22 3 47 rfl rfl
      obtain ⟨h48_, r4⟩ := hd22 4 48 rfl rfl
      obtain ⟨h49_, r5⟩ := hd22 5 49 rfl rfl
      obtain ⟨h50_, r6⟩ := hd22 6 50 rfl rfl
      simp only [show List.range 7 = [0, 1, 2, 3, 4, 5, 6] from rfl, List.flatMap_cons, List.flatMap_nil, List.map_cons, List.map_nil, r0, r1, r2, r3, r4, r5, r6, List.nil_append, List.append_nil, List.cons_append] at hst
      refine RunL.slots (sl := [(8, .pointer (some ⟨_, _, none⟩)), (9, .pointer (some ⟨_, _, none⟩)), (11, .func _ _ _), (12, .pointer (some ⟨_, _, none⟩)), (48, .bool _), (49, .int .i64 _), (50, .int .i64 _)]) ⟨(hs21 8 rfl).trans rfl, (hs21 9 rfl).trans rfl, (hs21 11 rfl).trans rfl, (hs21 12 rfl).trans rfl, h48_, h49_, h50_, trivial⟩ ?_
      clear hs21 hd22 hr24 tab18
      refine RunL.take (t := 48) rfl (congrArg Value.bool (decide_eq_true g19)) (Op1.neq rfl rfl ?_)
      refine RunL.cons (Op1.pickT (u := .bool _) (congrArg Value.bool (decide_eq_true g19)) rfl ?_)
      refine RunL.nil ?_
      refine run_cond_dec rfl (fun g25 => ?_) (fun g25 => ?_)
      · skip
        exfalso
        omega
      · skip
        refine run_skip ?_
        refine run_seq ?_
        refine run_region ?_
        refine RunL.cons (Op1.store (v := .int .i64 _) hst ty3 rfl rfl rfl rfl rfl (.there (.there (.there (.here)))) (by repeat (first | exact Put.nil | apply Put.put | apply Put.skip)) fun w hst => ?_)
        refine RunL.nil ?_
        refine run_seq ?_
        refine run_seq ?_
        refine run_region ?_
        refine RunL.cons (Op1.move (v := .func _ _ _) rfl ?_)
        refine RunL.nil ?_
        refine run_block ?_
        replace hst := hst.pick (.cons (.there (.there (.there (.here)))) (.cons (.here) (.cons (.here) (.cons (.here) (.cons (.here) (.cons (.here) (.cons (.here) (.cons (.here) (.cons (.here) (.cons (.here) (.cons (.here) (.cons (.here) .nil))))))))))))
        refine run_rangeIter (L1 := [_]) (L2 := [_, _, _, _, _, _, _, _, _, _, _]) (item := (fun j => [.int .i64 (pixAt l j).1, .int .i64 (pixAt l j).2])) (FD := (fun b => b = bpt ∨ b = bpw ∨ b = bph)) (fun i => [Res.row b12 3 [.int .i64 (i : Int)]]) (fun _ => [Res.prop False]) (fun _ => .ret) hst rfl rfl ent72 (fun b hb => .inl (by rcases hb with rfl | rfl | rfl; exact ⟨_, (.tail _ (.tail _ (.tail _ (.tail _ (.tail _ (.head _)))))), rfl⟩; exact ⟨_, (.tail _ (.tail _ (.tail _ (.tail _ (.head _))))), rfl⟩; exact ⟨_, (.tail _ (.tail _ (.tail _ (.head _)))), rfl⟩)) (fun w1 h1 => pixels_iter _ _ _ _ _ _ _ _ _ _ _ l hl _ _ _ w1 (h1.hL _ (.tail _ (.tail _ (.tail _ (.tail _ (.tail _ (.tail _ (.head _)))))))) (h1.hL _ (.tail _ (.tail _ (.tail _ (.tail _ (.tail _ (.head _))))))) (h1.hL _ (.tail _ (.tail _ (.tail _ (.tail _ (.head _))))))) (fun _ _ => rfl) ?_ ?_ ?_
        · intro j hj w bl2 br2 lp hlp hst hk
          refine run_seq ?_
          refine run_region ?_
          refine RunL.cons (Op1.assign (v := .int .i64 _) rfl ?_)
          refine RunL.nil ?_
          refine run_region ?_
          refine RunL.cons (Op1.assign (v := .int .i64 _) rfl ?_)
          refine RunL.nil ?_
          refine run_beginR hlp hst (.here) fun w hst => ?_
          refine run_block ?_
          refine run_seq ?_
          refine run_seq ?_
          refine run_region ?_
          refine RunL.cons (Op1.load1 (v := .int .i64 _) ty3 rfl rfl (hst.cellL (.tail _ (.tail _ (.head _))) rfl) ?_)
          refine RunL.cons (Op1.lss rfl rfl ?_)
          refine RunL.cons (Op1.move (v := .bool _) rfl ?_)
          refine RunL.splitD (d := 58) rfl (fun g26 => ?_) (fun g26 => ?_)
          · skip
            refine RunL.take (t := 58) rfl (congrArg Value.bool (decide_eq_true g26)) (Op1.load1 (v := .slice _ _ _) ty50 rfl rfl (hst.cellD (.tail _ (.tail _ (.tail _ (.tail _ (.tail _ (.tail _ (.head _))))))) rfl) ?_)
            refine RunL.take (t := 58) rfl (congrArg Value.bool (decide_eq_true g26)) (Op1.load1 (v := .int .i64 _) ty3 rfl rfl (hst.cellL (.tail _ (.tail _ (.head _))) rfl) ?_)
            refine RunL.take (t := 58) rfl (congrArg Value.bool (decide_eq_true g26)) (Op1.move (v := .int .i64 _) rfl ?_)
            refine RunL.take (t := 58) rfl (congrArg Value.bool (decide_eq_true g26)) (Op1.move (v := .int .i64 _) rfl ?_)
            refine RunL.take (t := 58) rfl (congrArg Value.bool (decide_eq_true g26)) (Op1.call4 (v1 := .slice _ _ _) (v2 := .int .i64 _) (v3 := .int .i64 _) (v4 := .int .i64 _) ent50 rfl rfl rfl rfl rfl ((law28_at _ _ _ _ (by omega) _ (hst.hD _ (.tail _ (.tail _ (.tail _ (.tail _ (.tail _ (.tail _ (.tail _ (.head _))))))))) hbd).mono fun v w hp => ?_))
            obtain ⟨rfl, hp⟩ := hp
            replace hst := hst.keepc hp
            clear hp
            refine RunL.take (t := 58) rfl (congrArg Value.bool (decide_eq_true g26)) (Op1.not rfl ?_)
            refine RunL.cons (Op1.pickT (u := .bool _) (congrArg Value.bool (decide_eq_true g26)) rfl ?_)
            refine RunL.nil ?_
            refine run_cond_false (congrArg Value.bool (congrArg not (rfl : true = _))) ?_
            refine run_skip ?_
            refine run_region ?_
            refine RunL.cons (Op1.load1 (v := .int .i64 _) ty3 rfl rfl (hst.cellL (.tail _ (.tail _ (.head _))) rfl) ?_)
            refine RunL.cons (Op1.addN rfl rfl rfl (wrap_i64 (by omega) (by omega)) ?_)
            refine RunL.cons (Op1.store (v := .int .i64 _) hst ty3 rfl rfl rfl rfl rfl (.there (.there (.here))) (by repeat (first | exact Put.nil | apply Put.put | apply Put.skip)) fun w hst => ?_)
            refine RunL.nil ?_
            refine run_inBlock ?_
            refine run_endR hlp hst (.here) fun w hst => ?_
            replace hst := hst.pick (.cons (.here) (.cons (.here) (.cons (.here) .nil)))
            exact .inl ⟨rfl, _, hst⟩
          · skip
            refine RunL.omit (t := 58) rfl (congrArg Value.bool (decide_eq_false g26)) rfl ?_
            refine RunL.omit (t := 58) rfl (congrArg Value.bool (decide_eq_false g26)) rfl ?_
            refine RunL.omit (t := 58) rfl (congrArg Value.bool (decide_eq_false g26)) rfl ?_
            refine RunL.omit (t := 58) rfl (congrArg Value.bool (decide_eq_false g26)) rfl ?_
            refine RunL.omit (t := 58) rfl (congrArg Value.bool (decide_eq_false g26)) rfl ?_
            refine RunL.omit (t := 58) rfl (congrArg Value.bool (decide_eq_false g26)) rfl ?_
            refine RunL.cons (Op1.pickF (u := .bool _) (congrArg Value.bool (decide_eq_false g26)) rfl ?_)
            refine RunL.nil ?_
            refine run_cond_false (congrArg Value.bool (rfl : false = _)) ?_
            refine run_skip ?_
            refine run_region ?_
            refine RunL.cons (Op1.load1 (v := .int .i64 _) ty3 rfl rfl (hst.cellL (.tail _ (.tail _ (.head _))) rfl) ?_)
            refine RunL.cons (Op1.addN rfl rfl rfl (wrap_i64 (by omega) (by omega)) ?_)
            refine RunL.cons (Op1.store (v := .int .i64 _) hst ty3 rfl rfl rfl rfl rfl (.there (.there (.here))) (by repeat (first | exact Put.nil | apply Put.put | apply Put.skip)) fun w hst => ?_)
            refine RunL.nil ?_
            refine run_inBlock ?_
            refine run_endR hlp hst (.here) fun w hst => ?_
            replace hst := hst.pick (.cons (.here) (.cons (.here) (.cons (.here) .nil)))
            exact .inl ⟨rfl, _, hst⟩
        · intro w bl2 br2 lp hst
          refine run_inBlock ?_
          refine run_seq ?_
          refine RunD.start [] hst (bs := [0, 0, 2, 7, 15, 31, 63, 127]) (ds := [some 68, some 69, some 70, some 71, some 72, some 73, some 74, none]) ⟨by kernel_rfl, by kernel_rfl, by kernel_rfl⟩ (fun tab27 => ?_)
          refine RunD.op (det _) tab27 1 (fun f' L' w' hc => Op1.load1 (v := .int .i64 _) ty3 rfl (hc.old (v := .pointer (some ⟨_, _, none⟩)) rfl rfl rfl) (hc.st.cellL (List.mem_append_right _ (.tail _ (.tail _ (.head _)))) rfl) ⟨[], ⟨rfl, rfl⟩, hc.st⟩) ?_
          refine RunD.op (det _) tab27 2 (fun f' L' w' hc => Op1.load1 (v := .slice _ _ _) ty50 rfl (hc.old (v := .pointer (some ⟨_, _, none⟩)) rfl rfl rfl) (hc.st.cellL (List.mem_append_right _ (.tail _ (.tail _ (.tail _ (.tail _ (.tail _ (.tail _ (.tail _ (.tail _ (.tail _ (.head _))))))))))) rfl) ⟨[], ⟨rfl, rfl⟩, hc.st⟩) ?_
          refine RunD.op (det _) tab27 3 (fun f' L' w' hc => Op1.call1 (v1 := .slice _ _ _) ent51 rfl (hc.det (j := 1) rfl rfl rfl rfl) ((law28_total _ _ _ _ (hc.st.hL _ (List.mem_append_right _ (.tail _ (.tail _ (.tail _ (.tail _ (.tail _ (.tail _ (.tail _ (.tail _ (.tail _ (.tail _ (.head _))))))))))))) hbd).mono fun v w hp => ⟨[], ⟨hp.1, rfl⟩, hc.st.keepc hp.2⟩)) ?_
          refine RunD.fin followsMixed tab27 hst rfl (fun f28 w R31 hs29 hd30 hr32 hst => ?_)
          obtain ⟨h68_, r0⟩ := hd30 0 68 rfl rfl
          obtain ⟨h69_, r1⟩ := hd30 1 69 rfl rfl
          obtain ⟨h70_, r2⟩ := hd30 2 70 rfl rfl
          simp only [show List.range 3 = [0, 1, 2] from rfl, List.flatMap_cons, List.flatMap_nil, List.map_cons, List.map_nil, r0, r1, r2, List.nil_append, List.append_nil, List.cons_append] at hst
          refine RunL.slots (sl := [(8, .pointer (some ⟨_, _, none⟩)), (68, .int .i64 _), (70, .int .i64 _)]) ⟨(hs29 8 rfl).trans rfl, h68_, h70_, trivial⟩ ?_
          clear hs29 hd30 hr32 tab27
          refine RunL.cons (Op1.eql rfl rfl ?_)
          refine RunL.cons (Op1.move (v := .bool _) rfl ?_)
          refine RunL.splitD (d := 72) rfl (fun g33 => ?_) (fun g33 => ?_)
          · skip
            refine RunL.take (t := 72) rfl (congrArg Value.bool (decide_eq_true g33)) (Op1.call0  ent40 rfl  ((law28_awake _).mono fun v w hp => ?_))
            obtain ⟨rfl, hp⟩ := hp
            replace hst := hst.keepc hp
            clear hp
            refine RunL.cons (Op1.pickT (u := .bool _) (congrArg Value.bool (decide_eq_true g33)) rfl ?_)
            refine RunL.cons (Op1.store (v := .bool _) hst ty4 rfl rfl rfl rfl rfl (.there (.there (.there (.there (.there (.there (.there (.there (.there (.there (.there (.here)))))))))))) (by repeat (first | exact Put.nil | apply Put.put | apply Put.skip)) fun w hst => ?_)
            refine RunL.nil ?_
            replace hst := hst.pick (.cons (.there (.here)) (.cons (.there (.there (.there (.here)))) (.cons (.here) (.cons (.here) (.cons (.here) (.cons (.here) (.cons (.here) (.cons (.here) (.cons (.here) (.cons (.here) (.cons (.here) (.cons (.here) (.cons (.here) (.cons (.here) .nil))))))))))))))
            refine run_ret_marks [br2, br] Try.func19 hst fun w hst => ⟨_, res1 rfl (RV.cell1 (v := .bool _) rfl ty4 rfl (hst.cellL (.tail _ (.tail _ (.tail _ (.tail _ (.tail _ (.tail _ (.tail _ (.tail _ (.tail _ (.head _)))))))))) rfl)), ?_⟩
            exact ⟨rfl, hst.pure⟩
          · skip
            exfalso
            omega
        · intro j hj w bl2 br2 lp hst
          exact (hst.hL _ (.tail _ (.tail _ (.head _))) : False).elim
    · skip
      refine RunD.omit tab18 6 rfl rfl (fun f' L' w' hc => (hc.det (j := 4) rfl rfl rfl rfl).trans (congrArg Value.bool (decide_eq_false g19))) ?_
      refine RunD.omit tab18 7 rfl rfl (fun f' L' w' hc => (hc.det (j := 4) rfl rfl rfl rfl).trans (congrArg Value.bool (decide_eq_false g19))) ?_
      refine RunD.fin followsMixed tab18 hst rfl (fun f34 w R37 hs35 hd36 hr38 hst => ?_)
      obtain ⟨h44_, r0⟩ := hd36 0 44 rfl rfl
      obtain ⟨h45_, r1⟩ := hd36 1 45 rfl rfl
      obtain ⟨h46_, r2⟩ := hd36 2 46 rfl rfl
      obtain ⟨h47_, r3⟩ := hd36 3 47 rfl rfl
      obtain ⟨h48_, r4⟩ := hd36 4 48 rfl rfl
      obtain ⟨h49_, r5⟩ := hd36 5 49 rfl rfl
      obtain ⟨h50_, r6⟩ := hd36 6 50 rfl rfl
      simp only [show List.range 7 = [0, 1, 2, 3, 4, 5, 6] from rfl, List.flatMap_cons, List.flatMap_nil, List.map_cons, List.map_nil, r0, r1, r2, r3, r4, r5, r6, List.nil_append, List.append_nil, List.cons_append] at hst
      refine RunL.slots (sl := [(8, .pointer (some ⟨_, _, none⟩)), (9, .pointer (some ⟨_, _, none⟩)), (11, .func _ _ _), (12, .pointer (some ⟨_, _, none⟩)), (48, .bool _), (49, _), (50, _)]) ⟨(hs35 8 rfl).trans rfl, (hs35 9 rfl).trans rfl, (hs35 11 rfl).trans rfl, (hs35 12 rfl).trans rfl, h48_, h49_, h50_, trivial⟩ ?_
      clear hs35 hd36 hr38 tab18
      refine RunL.omit (t := 48) rfl (congrArg Value.bool (decide_eq_false g19)) rfl ?_
      refine RunL.cons (Op1.pickF (u := .bool _) (congrArg Value.bool (decide_eq_false g19)) rfl ?_)
      refine RunL.nil ?_
      refine run_cond_false (congrArg Value.bool (rfl : false = _)) ?_
      refine run_skip ?_
      refine run_seq ?_
      refine run_region ?_
      refine RunL.cons (Op1.store (v := .int .i64 _) hst ty3 rfl rfl rfl rfl rfl (.there (.there (.there (.here)))) (by repeat (first | exact Put.nil | apply Put.put | apply Put.skip)) fun w hst => ?_)
      refine RunL.nil ?_
      refine run_seq ?_
      refine run_seq ?_
      refine run_region ?_
      refine RunL.cons (Op1.move (v := .func _ _ _) rfl ?_)
      refine RunL.nil ?_
      refine run_block ?_
      replace hst := hst.pick (.cons (.there (.there (.there (.here)))) (.cons (.here) (.cons (.here) (.cons (.here) (.cons (.here) (.cons (.here) (.cons (.here) (.cons (.here) (.cons (.here) (.cons (.here) (.cons (.here) (.cons (.here) .nil))))))))))))
      refine run_rangeIter (L1 := [_]) (L2 := [_, _, _, _, _, _, _, _, _, _, _]) (item := (fun j => [.int .i64 (pixAt l j).1, .int .i64 (pixAt l j).2])) (FD := (fun b => b = bpt ∨ b = bpw ∨ b = bph)) (fun i => [Res.row b12 3 [.int .i64 (i : Int)]]) (fun _ => [Res.prop False]) (fun _ => .ret) hst rfl rfl ent72 (fun b hb => .inl (by rcases hb with rfl | rfl | rfl; exact ⟨_, (.tail _ (.tail _ (.tail _ (.tail _ (.tail _ (.head _)))))), rfl⟩; exact ⟨_, (.tail _ (.tail _ (.tail _ (.tail _ (.head _))))), rfl⟩; exact ⟨_, (.tail _ (.tail _ (.tail _ (.head _)))), rfl⟩)) (fun w1 h1 => pixels_iter _ _ _ _ _ _ _ _ _ _ _ l hl _ _ _ w1 (h1.hL _ (.tail _ (.tail _ (.tail _ (.tail _ (.tail _ (.tail _ (.head _)))))))) (h1.hL _ (.tail _ (.tail _ (.tail _ (.tail _ (.tail _ (.head _))))))) (h1.hL _ (.tail _ (.tail _ (.tail _ (.tail _ (.head _))))))) (fun _ _ => rfl) ?_ ?_ ?_
      · intro j hj w bl2 br2 lp hlp hst hk
        refine run_seq ?_
        refine run_region ?_
        refine RunL.cons (Op1.assign (v := .int .i64 _) rfl ?_)
        refine RunL.nil ?_
        refine run_region ?_
        refine RunL.cons (Op1.assign (v := .int .i64 _) rfl ?_)
        refine RunL.nil ?_
        refine run_beginR hlp hst (.here) fun w hst => ?_
        refine run_block ?_
        refine run_seq ?_
        refine run_seq ?_
        refine run_region ?_
        refine RunL.cons (Op1.load1 (v := .int .i64 _) ty3 rfl rfl (hst.cellL (.tail _ (.tail _ (.head _))) rfl) ?_)
        refine RunL.cons (Op1.lss rfl rfl ?_)
        refine RunL.cons (Op1.move (v := .bool _) rfl ?_)
        refine RunL.splitD (d := 58) rfl (fun g39 => ?_) (fun g39 => ?_)
        · skip
          refine RunL.take (t := 58) rfl (congrArg Value.bool (decide_eq_true g39)) (Op1.load1 (v := .slice _ _ _) ty50 rfl rfl (hst.cellD (.tail _ (.tail _ (.tail _ (.tail _ (.tail _ (.tail _ (.head _))))))) rfl) ?_)
          refine RunL.take (t := 58) rfl (congrArg Value.bool (decide_eq_true g39)) (Op1.load1 (v := .int .i64 _) ty3 rfl rfl (hst.cellL (.tail _ (.tail _ (.head _))) rfl) ?_)
          refine RunL.take (t := 58) rfl (congrArg Value.bool (decide_eq_true g39)) (Op1.move (v := .int .i64 _) rfl ?_)
          refine RunL.take (t := 58) rfl (congrArg Value.bool (decide_eq_true g39)) (Op1.move (v := .int .i64 _) rfl ?_)
          refine RunL.take (t := 58) rfl (congrArg Value.bool (decide_eq_true g39)) (Op1.call4 (v1 := .slice _ _ _) (v2 := .int .i64 _) (v3 := .int .i64 _) (v4 := .int .i64 _) ent50 rfl rfl rfl rfl rfl ((law28_at _ _ _ _ (by omega) _ (hst.hD _ (.tail _ (.tail _ (.tail _ (.tail _ (.tail _ (.tail _ (.tail _ (.head _))))))))) hbd).mono fun v w hp => ?_))
          obtain ⟨rfl, hp⟩ := hp
          replace hst := hst.keepc hp
          clear hp
          refine RunL.take (t := 58) rfl (congrArg Value.bool (decide_eq_true g39)) (Op1.not rfl ?_)
          refine RunL.cons (Op1.pickT (u := .bool _) (congrArg Value.bool (decide_eq_true g39)) rfl ?_)
          refine RunL.nil ?_
          refine run_cond_false (congrArg Value.bool (congrArg not (rfl : true = _))) ?_
          refine run_skip ?_
          refine run_region ?_
          refine RunL.cons (Op1.load1 (v := .int .i64 _) ty3 rfl rfl (hst.cellL (.tail _ (.tail _ (.head _))) rfl) ?_)
          refine RunL.cons (Op1.addN rfl rfl rfl (wrap_i64 (by omega) (by omega)) ?_)
          refine RunL.cons (Op1.store (v := .int .i64 _) hst ty3 rfl rfl rfl rfl rfl (.there (.there (.here))) (by repeat (first | exact Put.nil | apply Put.put | apply Put.skip)) fun w hst => ?_)
          refine RunL.nil ?_
          refine run_inBlock ?_
          refine run_endR hlp hst (.here) fun w hst => ?_
          replace hst := hst.pick (.cons (.here) (.cons (.here) (.cons (.here) .nil)))
          exact .inl ⟨rfl, _, hst⟩
        · skip
          refine RunL.omit (t := 58) rfl (congrArg Value.bool (decide_eq_false g39)) rfl ?_
          refine RunL.omit (t := 58) rfl (congrArg Value.bool (decide_eq_false g39)) rfl ?_
          refine RunL.omit (t := 58) rfl (congrArg Value.bool (decide_eq_false g39)) rfl ?_
          refine RunL.omit (t := 58) rfl (congrArg Value.bool (decide_eq_false g39)) rfl ?_
          refine RunL.omit (t := 58) rfl (congrArg Value.bool (decide_eq_false g39)) rfl ?_
          refine RunL.omit (t := 58) rfl (congrArg Value.bool (decide_eq_false g39)) rfl ?_
          refine RunL.cons (Op1.pickF (u := .bool _) (congrArg Value.bool (decide_eq_false g39)) rfl ?_)
          refine RunL.nil ?_
          refine run_cond_false (congrArg Value.bool (rfl : false = _)) ?_
          refine run_skip ?_
          refine run_region ?_
          refine RunL.cons (Op1.load1 (v := .int .i64 _) ty3 rfl rfl (hst.cellL (.tail _ (.tail _ (.head _))) rfl) ?_)
          refine RunL.cons (Op1.addN rfl rfl rfl (wrap_i64 (by omega) (by omega)) ?_)
          refine RunL.cons (Op1.store (v := .int .i64 _) hst ty3 rfl rfl rfl rfl rfl (.there (.there (.here))) (by repeat (first | exact Put.nil | apply Put.put | apply Put.skip)) fun w hst => ?_)
          refine RunL.nil ?_
          refine run_inBlock ?_
          refine run_endR hlp hst (.here) fun w hst => ?_
          replace hst := hst.pick (.cons (.here) (.cons (.here) (.cons (.here) .nil)))
          exact .inl ⟨rfl, _, hst⟩
      · intro w bl2 br2 lp hst
        refine run_inBlock ?_
        refine run_seq ?_
        refine RunD.start [] hst (bs := [0, 0, 2, 7, 15, 31, 63, 127]) (ds := [some 68, some 69, some 70, some 71, some 72, some 73, some 74, none]) ⟨by kernel_rfl, by kernel_rfl, by kernel_rfl⟩ (fun tab40 => ?_)
        refine RunD.op (det _) tab40 1 (fun f' L' w' hc => Op1.load1 (v := .int .i64 _) ty3 rfl (hc.old (v := .pointer (some ⟨_, _, none⟩)) rfl rfl rfl) (hc.st.cellL (List.mem_append_right _ (.tail _ (.tail _ (.head _)))) rfl) ⟨[], ⟨rfl, rfl⟩, hc.st⟩) ?_
        refine RunD.op (det _) tab40 2 (fun f' L' w' hc => Op1.load1 (v := .slice _ _ _) ty50 rfl (hc.old (v := .pointer (some ⟨_, _, none⟩)) rfl rfl rfl) (hc.st.cellL (List.mem_append_right _ (.tail _ (.tail _ (.tail _ (.tail _ (.tail _ (.tail _ (.tail _ (.tail _ (.tail _ (.head _))))))))))) rfl) ⟨[], ⟨rfl, rfl⟩, hc.st⟩) ?_
        refine RunD.op (det _) tab40 3 (fun f' L' w' hc => Op1.call1 (v1 := .slice _ _ _) ent51 rfl (hc.det (j := 1) rfl rfl rfl rfl) ((law28_total _ _ _ _ (hc.st.hL _ (List.mem_append_right _ (.tail _ (.tail _ (.tail _ (.tail _ (.tail _ (.tail _ (.tail _ (.tail _ (.tail _ (.tail _ (.head _))))))))))))) hbd).mono fun v w hp => ⟨[], ⟨hp.1, rfl⟩, hc.st.keepc hp.2⟩)) ?_
        refine RunD.fin followsMixed tab40 hst rfl (fun f41 w R44 hs42 hd43 hr45 hst => ?_)
        obtain ⟨h68_, r0⟩ := hd43 0 68 rfl rfl
        obtain ⟨h69_, r1⟩ := hd43 1 69 rfl rfl
        obtain ⟨h70_, r2⟩ := hd43 2 70 rfl rfl
        simp only [show List.range 3 = [0, 1, 2] from rfl, List.flatMap_cons, List.flatMap_nil, List.map_cons, List.map_nil, r0, r1, r2, List.nil_append, List.append_nil, List.cons_append] at hst
        refine RunL.slots (sl := [(8, .pointer (some ⟨_, _, none⟩)), (68, .int .i64 _), (70, .int .i64 _)]) ⟨(hs42 8 rfl).trans rfl, h68_, h70_, trivial⟩ ?_
        clear hs42 hd43 hr45 tab40
        refine RunL.cons (Op1.eql rfl rfl ?_)
        refine RunL.cons (Op1.move (v := .bool _) rfl ?_)
        refine RunL.splitD (d := 72) rfl (fun g46 => ?_) (fun g46 => ?_)
        · skip
          refine RunL.take (t := 72) rfl (congrArg Value.bool (decide_eq_true g46)) (Op1.call0  ent40 rfl  ((law28_awake _).mono fun v w hp => ?_))
          obtain ⟨rfl, hp⟩ := hp
          replace hst := hst.keepc hp
          clear hp
          refine RunL.cons (Op1.pickT (u := .bool _) (congrArg Value.bool (decide_eq_true g46)) rfl ?_)
          refine RunL.cons (Op1.store (v := .bool _) hst ty4 rfl rfl rfl rfl rfl (.there (.there (.there (.there (.there (.there (.there (.there (.there (.there (.there (.here)))))))))))) (by repeat (first | exact Put.nil | apply Put.put | apply Put.skip)) fun w hst => ?_)
          refine RunL.nil ?_
          replace hst := hst.pick (.cons (.there (.here)) (.cons (.there (.there (.there (.here)))) (.cons (.here) (.cons (.here) (.cons (.here) (.cons (.here) (.cons (.here) (.cons (.here) (.cons (.here) (.cons (.here) (.cons (.here) (.cons (.here) (.cons (.here) (.cons (.here) .nil))))))))))))))
          refine run_ret_marks [br2, br] Try.func19 hst fun w hst => ⟨_, res1 rfl (RV.cell1 (v := .bool _) rfl ty4 rfl (hst.cellL (.tail _ (.tail _ (.tail _ (.tail _ (.tail _ (.tail _ (.tail _ (.tail _ (.tail _ (.head _)))))))))) rfl)), ?_⟩
          exact ⟨rfl, hst.pure⟩
        · skip
          exfalso
          omega
      · intro j hj w bl2 br2 lp hst
        exact (hst.hL _ (.tail _ (.tail _ (.head _))) : False).elim

end Go.SK
