/-
  The walks of the functions of edge, cover and of their references, and of the laws over them.
-/
import Derived.Test.YtnbapjkldjhjoaaSkFacts1
import Derived.Test.YtnbapjkldjhjoaaSkFacts2
import Derived.Test.YtnbapjkldjhjoaaSkCoverG
import Derived.Test.YtnbapjkldjhjoaaSkCoverS
import Derived.Test.YtnbapjkldjhjoaaSkL
set_option linter.unusedVariables false
set_option linter.unusedSimpArgs false
namespace Go.SK
open Go Go.Proofs
open Go.RowKit
theorem law28_small (x : Int) (w : World) : Ret Try.prog 47 #[.int .i32 x] w (fun v w' => v = .bool (decide (-16000 ≤ x ∧ x ≤ 16000)) ∧ St w NoM [] [] w') := by
  refine Ret.enter (args := [.int .i32 x]) Try.func47 rfl rfl rfl ?_
  have hst := St.init w
  refine run_seq ?_
  refine run_region ?_
  refine RunL.cons (Op1.assign (v := .bool _) rfl ?_)
  refine RunL.nil ?_
  refine run_seq ?_
  refine run_region ?_
  refine RunL.cons (Op1.move (v := .int .i32 _) rfl ?_)
  refine RunL.cons (Op1.geq rfl rfl ?_)
  refine RunL.cons (Op1.move (v := .bool _) rfl ?_)
  refine RunL.splitD (d := 5) rfl (fun g1 => ?_) (fun g1 => ?_)
  · skip
    refine RunL.take (t := 5) rfl (congrArg Value.bool (decide_eq_true g1)) (Op1.move (v := .int .i32 _) rfl ?_)
    refine RunL.take (t := 5) rfl (congrArg Value.bool (decide_eq_true g1)) (Op1.leq rfl rfl ?_)
    refine RunL.cons (Op1.pickT (u := .bool _) (congrArg Value.bool (decide_eq_true g1)) rfl ?_)
    refine RunL.cons (Op1.assign (v := .bool _) rfl ?_)
    refine RunL.nil ?_
    refine run_ret1 Try.func47 rfl (RV.tmp (v := .bool _) rfl) ?_
    refine ⟨congrArg Value.bool ?_, hst.pure⟩
    first | (rw [decide_eq_decide]; omega) | exact (decide_eq_false (by omega)).symm | exact (decide_eq_true (by omega)).symm
  · skip
    refine RunL.omit (t := 5) rfl (congrArg Value.bool (decide_eq_false g1)) rfl ?_
    refine RunL.omit (t := 5) rfl (congrArg Value.bool (decide_eq_false g1)) rfl ?_
    refine RunL.cons (Op1.pickF (u := .bool _) (congrArg Value.bool (decide_eq_false g1)) rfl ?_)
    refine RunL.cons (Op1.assign (v := .bool _) rfl ?_)
    refine RunL.nil ?_
    refine run_ret1 Try.func47 rfl (RV.tmp (v := .bool _) rfl) ?_
    refine ⟨congrArg Value.bool ?_, hst.pure⟩
    first | (rw [decide_eq_decide]; omega) | exact (decide_eq_false (by omega)).symm | exact (decide_eq_true (by omega)).symm

theorem law28_moved (px py pz dx dy : Int) (h : (-16000 ≤ px ∧ px ≤ 16000) ∧ (-16000 ≤ py ∧ py ≤ 16000) ∧ (-900 ≤ dx ∧ dx ≤ 900) ∧ -900 ≤ dy ∧ dy ≤ 900) (w : World) : Ret Try.prog 48 #[.agg #[.int .i32 px, .int .i32 py, .int .i32 pz], .int .i64 dx, .int .i64 dy] w (fun v w' => v = .agg #[.int .i32 (px + 16 * dx), .int .i32 (py + 16 * dy), .int .i32 pz] ∧ St w NoM [] [] w') := by
  refine Ret.enter (args := [.agg #[.int .i32 px, .int .i32 py, .int .i32 pz], .int .i64 dx, .int .i64 dy]) Try.func48 rfl rfl rfl ?_
  have hst := St.init w
  refine run_seq ?_
  refine run_region ?_
  refine RunL.cons (Op1.box (v := .agg #[.int .i32 _, .int .i32 _, .int .i32 _]) hst rfl rfl fun w b3 hst => ?_)
  refine RunL.cons (Op1.alloc hst ty25 fun w b6 hst => ?_)
  refine RunL.nil ?_
  refine run_seq ?_
  refine run_region ?_
  refine RunL.cons (Op1.fieldAddr fld25_0 rfl ?_)
  refine RunL.cons (Op1.load1 (v := .int .i32 _) ty21 rfl rfl (hst.cellL (.tail _ (.head _)) rfl) ?_)
  refine RunL.cons (Op1.move (v := .int .i64 _) rfl ?_)
  first | refine RunL.cons (Op1.mulN rfl rfl rfl (wrap_i64 (by omega) (by omega)) ?_) | refine RunL.cons (Op1.mulB rfl rfl (by omega) (by omega) (by omega) (by omega) (fun hm1 hm2 => ?_))
  first | refine RunL.cons (Op1.convN ty3 ty21 rfl (wrap_i32 (by omega) (by omega)) ?_) | refine RunL.cons (Op1.conv ty3 ty21 rfl ?_)
  refine RunL.cons (Op1.addN rfl rfl rfl (wrap_i32 (by omega) (by omega)) ?_)
  refine RunL.cons (Op1.fieldAddr fld25_1 rfl ?_)
  refine RunL.cons (Op1.load1 (v := .int .i32 _) ty21 rfl rfl (hst.cellL (.tail _ (.head _)) rfl) ?_)
  refine RunL.cons (Op1.move (v := .int .i64 _) rfl ?_)
  first | refine RunL.cons (Op1.mulN rfl rfl rfl (wrap_i64 (by omega) (by omega)) ?_) | refine RunL.cons (Op1.mulB rfl rfl (by omega) (by omega) (by omega) (by omega) (fun hm3 hm4 => ?_))
  first | refine RunL.cons (Op1.convN ty3 ty21 rfl (wrap_i32 (by omega) (by omega)) ?_) | refine RunL.cons (Op1.conv ty3 ty21 rfl ?_)
  refine RunL.cons (Op1.addN rfl rfl rfl (wrap_i32 (by omega) (by omega)) ?_)
  refine RunL.cons (Op1.fieldAddr fld25_2 rfl ?_)
  refine RunL.cons (Op1.load1 (v := .int .i32 _) ty21 rfl rfl (hst.cellL (.tail _ (.head _)) rfl) ?_)
  refine RunL.cons (Op1.buildStruct ty25 stf25 (.cons rfl (v := .int .i32 _) rfl rfl rfl rfl (by repeat (first | exact Put.nil | apply Put.put | apply Put.skip)) (.cons rfl (v := .int .i32 _) rfl rfl rfl rfl (by repeat (first | exact Put.nil | apply Put.put | apply Put.skip)) (.cons rfl (v := .int .i32 _) rfl rfl rfl rfl (by repeat (first | exact Put.nil | apply Put.put | apply Put.skip)) .nil))) ?_)
  refine RunL.cons (Op1.store (v := .agg #[.int .i32 _, .int .i32 _, .int .i32 _]) hst ty25 rfl rfl rfl rfl rfl (.here) (by repeat (first | exact Put.nil | apply Put.put | apply Put.skip)) fun w hst => ?_)
  refine RunL.nil ?_
  refine run_ret1 Try.func48 rfl (RV.cellA (vs := [.int .i32 _, .int .i32 _, .int .i32 _]) rfl ty25 rfl rfl (cells_of_obj (n := 3) (hst.objL (.head _)) _ rfl)) ?_
  exact ⟨rfl, hst.pure⟩

set_option maxHeartbeats 1000000 in
theorem law_CoverMoved (ax ay az bx by_ bz cx cy cz : Int) (x y dx dy : Int) (w : World) : Ret Try.prog 16 #[.agg #[.int .i32 ax, .int .i32 ay, .int .i32 az, .int .i32 bx, .int .i32 by_, .int .i32 bz, .int .i32 cx, .int .i32 cy, .int .i32 cz], .int .i64 x, .int .i64 y, .int .i64 dx, .int .i64 dy] w (fun v w' => v = .bool true ∧ St w NoM [] [] w') := by
  refine Ret.enter (args := [.agg #[.int .i32 ax, .int .i32 ay, .int .i32 az, .int .i32 bx, .int .i32 by_, .int .i32 bz, .int .i32 cx, .int .i32 cy, .int .i32 cz], .int .i64 x, .int .i64 y, .int .i64 dx, .int .i64 dy]) Try.func16 rfl rfl rfl ?_
  have hst := St.init w
  obtain ⟨l, hl⟩ : ∃ l, covRows (clampZ ax) (clampZ ay) (clampZ bx) (clampZ by_) (clampZ cx) (clampZ cy) 1024 1024 = l := ⟨_, rfl⟩
  obtain ⟨m, hm⟩ : ∃ m, covRows (clampZ (ax + 16 * dx)) (clampZ (ay + 16 * dy)) (clampZ (bx + 16 * dx)) (clampZ (by_ + 16 * dy)) (clampZ (cx + 16 * dx)) (clampZ (cy + 16 * dy)) 1024 1024 = m := ⟨_, rfl⟩
  have hbl := (covRows_bd (clampZ ax) (clampZ ay) (clampZ bx) (clampZ by_) (clampZ cx) (clampZ cy) 1024 1024).1
  have hbm := (covRows_bd (clampZ (ax + 16 * dx)) (clampZ (ay + 16 * dy)) (clampZ (bx + 16 * dx)) (clampZ (by_ + 16 * dy)) (clampZ (cx + 16 * dx)) (clampZ (cy + 16 * dy)) 1024 1024).1
  rw [hl] at hbl
  rw [hm] at hbm
  refine run_seq ?_
  refine run_region ?_
  refine RunL.cons (Op1.box (v := .agg #[.int .i32 _, .int .i32 _, .int .i32 _, .int .i32 _, .int .i32 _, .int .i32 _, .int .i32 _, .int .i32 _, .int .i32 _]) hst rfl rfl fun w b5 hst => ?_)
  refine RunL.cons (Op1.assign (v := .bool _) rfl ?_)
  refine RunL.nil ?_
  refine run_seq ?_
  refine run_seq ?_
  refine run_region ?_
  refine RunL.cons (Op1.assign (v := .int .i64 _) rfl ?_)
  refine RunL.nil ?_
  refine run_block ?_
  refine run_loop ?_
  refine run_seq ?_
  refine run_seq ?_
  refine run_region ?_
  refine RunL.cons (Op1.move (v := .int .i64 _) rfl ?_)
  refine RunL.cons (Op1.lss rfl rfl ?_)
  refine RunL.nil ?_
  refine run_cond_true (congrArg Value.bool (decide_eq_true (by decide))) ?_
  refine run_skip ?_
  refine run_seq ?_
  refine run_block ?_
  refine Run.cutC hst [1, 2, 3, 4, 5, 11] ((-16000 ≤ ax ∧ ax ≤ 16000) ∧ -16000 ≤ ay ∧ ay ≤ 16000) (fun f w kf3 hst hJ2 => ?_) (fun cut1 => ?_)
  · skip
    refine Run.slots (sl := [(1, .int .i64 _), (2, .int .i64 _), (3, .int .i64 _), (4, .int .i64 _), (5, .pointer (some ⟨_, _, none⟩)), (11, .int .i64 _)]) ⟨(kf3.get 1 rfl).trans rfl, (kf3.get 2 rfl).trans rfl, (kf3.get 3 rfl).trans rfl, (kf3.get 4 rfl).trans rfl, (kf3.get 5 rfl).trans rfl, (kf3.get 11 rfl).trans rfl, trivial⟩ ?_
    refine run_inBlock ?_
    refine run_region ?_
    refine RunL.cons (Op1.move (v := .int .i64 _) rfl ?_)
    refine RunL.cons (Op1.addN rfl rfl rfl (wrap_i64 (by omega) (by omega)) ?_)
    refine RunL.cons (Op1.assign (v := .int .i64 _) rfl ?_)
    refine RunL.nil ?_
    refine run_inLoop ?_
    refine run_seq ?_
    refine run_seq ?_
    refine run_region ?_
    refine RunL.cons (Op1.move (v := .int .i64 _) rfl ?_)
    refine RunL.cons (Op1.lss rfl rfl ?_)
    refine RunL.nil ?_
    refine run_cond_true (congrArg Value.bool (decide_eq_true (by decide))) ?_
    refine run_skip ?_
    refine run_seq ?_
    refine run_block ?_
    refine Run.cutC hst [1, 2, 3, 4, 5, 11] ((-16000 ≤ bx ∧ bx ≤ 16000) ∧ -16000 ≤ by_ ∧ by_ ≤ 16000) (fun f w kf6 hst hJ5 => ?_) (fun cut4 => ?_)
    · skip
      refine Run.slots (sl := [(1, .int .i64 _), (2, .int .i64 _), (3, .int .i64 _), (4, .int .i64 _), (5, .pointer (some ⟨_, _, none⟩)), (11, .int .i64 _)]) ⟨(kf6.get 1 rfl).trans rfl, (kf6.get 2 rfl).trans rfl, (kf6.get 3 rfl).trans rfl, (kf6.get 4 rfl).trans rfl, (kf6.get 5 rfl).trans rfl, (kf6.get 11 rfl).trans rfl, trivial⟩ ?_
      refine run_inBlock ?_
      refine run_region ?_
      refine RunL.cons (Op1.move (v := .int .i64 _) rfl ?_)
      refine RunL.cons (Op1.addN rfl rfl rfl (wrap_i64 (by omega) (by omega)) ?_)
      refine RunL.cons (Op1.assign (v := .int .i64 _) rfl ?_)
      refine RunL.nil ?_
      refine run_inLoop ?_
      refine run_seq ?_
      refine run_seq ?_
      refine run_region ?_
      refine RunL.cons (Op1.move (v := .int .i64 _) rfl ?_)
      refine RunL.cons (Op1.lss rfl rfl ?_)
      refine RunL.nil ?_
      refine run_cond_true (congrArg Value.bool (decide_eq_true (by decide))) ?_
      refine run_skip ?_
      refine run_seq ?_
      refine run_block ?_
      refine Run.cutC hst [1, 2, 3, 4, 5, 11] ((-16000 ≤ cx ∧ cx ≤ 16000) ∧ -16000 ≤ cy ∧ cy ≤ 16000) (fun f w kf9 hst hJ8 => ?_) (fun cut7 => ?_)
      · skip
        refine Run.slots (sl := [(1, .int .i64 _), (2, .int .i64 _), (3, .int .i64 _), (4, .int .i64 _), (5, .pointer (some ⟨_, _, none⟩)), (11, .int .i64 _)]) ⟨(kf9.get 1 rfl).trans rfl, (kf9.get 2 rfl).trans rfl, (kf9.get 3 rfl).trans rfl, (kf9.get 4 rfl).trans rfl, (kf9.get 5 rfl).trans rfl, (kf9.get 11 rfl).trans rfl, trivial⟩ ?_
        refine run_inBlock ?_
        refine run_region ?_
        refine RunL.cons (Op1.move (v := .int .i64 _) rfl ?_)
        refine RunL.cons (Op1.addN rfl rfl rfl (wrap_i64 (by omega) (by omega)) ?_)
        refine RunL.cons (Op1.assign (v := .int .i64 _) rfl ?_)
        refine RunL.nil ?_
        refine run_inLoop ?_
        refine run_seq ?_
        refine run_seq ?_
        refine run_region ?_
        refine RunL.cons (Op1.move (v := .int .i64 _) rfl ?_)
        refine RunL.cons (Op1.lss rfl rfl ?_)
        refine RunL.nil ?_
        refine run_cond_false (congrArg Value.bool (decide_eq_false (by decide))) ?_
        refine run_exit (id := 0) rfl ?_
        refine run_seq ?_
        refine Run.cutC hst [1, 2, 3, 4, 5] (((-900 ≤ dx ∧ dx ≤ 900) ∧ -900 ≤ dy ∧ dy ≤ 900) ∧ 0 ≤ x ∧ x < 1024 ∧ 0 ≤ y ∧ y < 1024) (fun f w kf12 hst hJ11 => ?_) (fun cut10 => ?_)
        · skip
          refine Run.slots (sl := [(1, .int .i64 _), (2, .int .i64 _), (3, .int .i64 _), (4, .int .i64 _), (5, .pointer (some ⟨_, _, none⟩))]) ⟨(kf12.get 1 rfl).trans rfl, (kf12.get 2 rfl).trans rfl, (kf12.get 3 rfl).trans rfl, (kf12.get 4 rfl).trans rfl, (kf12.get 5 rfl).trans rfl, trivial⟩ ?_
          refine run_seq ?_
          refine run_region ?_
          refine RunL.cons (Op1.move (v := .int .i64 _) rfl ?_)
          refine RunL.cons (Op1.move (v := .int .i64 _) rfl ?_)
          refine RunL.cons (Op1.addN rfl rfl rfl (wrap_i64 (by omega) (by omega)) ?_)
          refine RunL.cons (Op1.move (v := .int .i64 _) rfl ?_)
          refine RunL.cons (Op1.move (v := .int .i64 _) rfl ?_)
          refine RunL.cons (Op1.addN rfl rfl rfl (wrap_i64 (by omega) (by omega)) ?_)
          refine RunL.cons (Op1.assign (v := .int .i64 _) rfl ?_)
          refine RunL.cons (Op1.assign (v := .int .i64 _) rfl ?_)
          refine RunL.nil ?_
          refine run_seq ?_
          refine Run.cutC hst [1, 2, 3, 4, 5, 12, 13] (0 ≤ x + dx ∧ x + dx < 1024 ∧ 0 ≤ y + dy ∧ y + dy < 1024) (fun f w kf15 hst hJ14 => ?_) (fun cut13 => ?_)
          · skip
            refine Run.slots (sl := [(1, .int .i64 _), (2, .int .i64 _), (3, .int .i64 _), (4, .int .i64 _), (5, .pointer (some ⟨_, _, none⟩)), (12, .int .i64 _), (13, .int .i64 _)]) ⟨(kf15.get 1 rfl).trans rfl, (kf15.get 2 rfl).trans rfl, (kf15.get 3 rfl).trans rfl, (kf15.get 4 rfl).trans rfl, (kf15.get 5 rfl).trans rfl, (kf15.get 12 rfl).trans rfl, (kf15.get 13 rfl).trans rfl, trivial⟩ ?_
            refine run_seq ?_
            refine run_region ?_
            refine RunL.cons (Op1.loadA (vs := [.int .i32 _, .int .i32 _, .int .i32 _, .int .i32 _, .int .i32 _, .int .i32 _, .int .i32 _, .int .i32 _, .int .i32 _]) ty27 rfl rfl rfl (cells_of_obj (n := 9) (hst.objL (.head _)) _ rfl) ?_)
            refine RunL.cons (Op1.call3 (v1 := .agg #[.int .i32 _, .int .i32 _, .int .i32 _, .int .i32 _, .int .i32 _, .int .i32 _, .int .i32 _, .int .i32 _, .int .i32 _]) (v2 := .int .i64 _) (v3 := .int .i64 _) ent42 rfl rfl rfl rfl ((cov_Rows2 _ _ _ _ _ _ _ _ _ _ _ _ hl).mono fun v w hp => ?_))
            obtain ⟨ao16, cp16, rfl, hp⟩ := hp
            replace hst := hst.call0 hp
            clear hp
            refine RunL.cons (Op1.move (v := .tuple #[.slice _ _ _, .int .i64 _]) rfl ?_)
            refine RunL.cons (Op1.extract (v := .slice _ _ _) rfl rfl ?_)
            refine RunL.cons (Op1.extract (v := .int .i64 _) rfl rfl ?_)
            refine RunL.cons (Op1.assign (v := .slice _ _ _) rfl ?_)
            refine RunL.cons (Op1.assign (v := .int .i64 _) rfl ?_)
            refine RunL.nil ?_
            refine run_seq ?_
            refine RunD.start [] hst (bs := [0, 1, 0, 0, 15, 0, 32, 0, 0, 511, 0, 1024, 0, 0, 16383, 32767, 65535, 131071, 262143, 262143, 524287, 2097151]) (ds := [some 95, some 96, some 97, some 98, some 99, some 100, some 101, some 102, some 103, some 104, some 105, some 106, some 107, some 108, some 109, some 110, some 111, some 94, some 112, some 113, some 16, some 17]) ⟨by kernel_rfl, by kernel_rfl, by kernel_rfl⟩ (fun tab17 => ?_)
            refine RunD.op (det _) tab17 1 (fun f' L' w' hc => Op1.indexArr ty27 ty25 (hc.old (v := .pointer (some ⟨_, _, none⟩)) rfl rfl rfl) rfl (by decide) (by decide) ⟨[], ⟨rfl, rfl⟩, hc.st⟩) ?_
            refine RunD.op (det _) tab17 2 (fun f' L' w' hc => Op1.loadA (vs := [.int .i32 _, .int .i32 _, .int .i32 _]) ty25 rfl (hc.det (j := 0) rfl rfl rfl rfl) rfl (cells_of_obj (n := 3) (hc.st.objL (List.mem_append_right _ (.tail _ (.head _)))) _ rfl) ⟨[], ⟨rfl, rfl⟩, hc.st⟩) ?_
            refine RunD.op (det _) tab17 3 (fun f' L' w' hc => Op1.move (v := .int .i64 _) (hc.old (v := .int .i64 _) rfl rfl rfl) ⟨[], ⟨rfl, rfl⟩, hc.st⟩) ?_
            refine RunD.op (det _) tab17 4 (fun f' L' w' hc => Op1.move (v := .int .i64 _) (hc.old (v := .int .i64 _) rfl rfl rfl) ⟨[], ⟨rfl, rfl⟩, hc.st⟩) ?_
            refine RunD.op (det _) tab17 5 (fun f' L' w' hc => Op1.call3 (v1 := .agg #[.int .i32 _, .int .i32 _, .int .i32 _]) (v2 := .int .i64 _) (v3 := .int .i64 _) ent48 rfl (hc.det (j := 1) rfl rfl rfl rfl) (hc.det (j := 2) rfl rfl rfl rfl) (hc.det (j := 3) rfl rfl rfl rfl) ((law28_moved _ _ _ _ _ (by omega) _).mono fun v w hp => ⟨[], ⟨hp.1, rfl⟩, hc.st.keepc hp.2⟩)) ?_
            refine RunD.op (det _) tab17 6 (fun f' L' w' hc => Op1.indexArr ty27 ty25 (hc.old (v := .pointer (some ⟨_, _, none⟩)) rfl rfl rfl) rfl (by decide) (by decide) ⟨[], ⟨rfl, rfl⟩, hc.st⟩) ?_
            refine RunD.op (det _) tab17 7 (fun f' L' w' hc => Op1.loadA (vs := [.int .i32 _, .int .i32 _, .int .i32 _]) ty25 rfl (hc.det (j := 5) rfl rfl rfl rfl) rfl (cells_of_obj (n := 3) (hc.st.objL (List.mem_append_right _ (.tail _ (.head _)))) _ rfl) ⟨[], ⟨rfl, rfl⟩, hc.st⟩) ?_
            refine RunD.op (det _) tab17 8 (fun f' L' w' hc => Op1.move (v := .int .i64 _) (hc.old (v := .int .i64 _) rfl rfl rfl) ⟨[], ⟨rfl, rfl⟩, hc.st⟩) ?_
            refine RunD.op (det _) tab17 9 (fun f' L' w' hc => Op1.move (v := .int .i64 _) (hc.old (v := .int .i64 _) rfl rfl rfl) ⟨[], ⟨rfl, rfl⟩, hc.st⟩) ?_
            refine RunD.op (det _) tab17 10 (fun f' L' w' hc => Op1.call3 (v1 := .agg #[.int .i32 _, .int .i32 _, .int .i32 _]) (v2 := .int .i64 _) (v3 := .int .i64 _) ent48 rfl (hc.det (j := 6) rfl rfl rfl rfl) (hc.det (j := 7) rfl rfl rfl rfl) (hc.det (j := 8) rfl rfl rfl rfl) ((law28_moved _ _ _ _ _ (by omega) _).mono fun v w hp => ⟨[], ⟨hp.1, rfl⟩, hc.st.keepc hp.2⟩)) ?_
            refine RunD.op (det _) tab17 11 (fun f' L' w' hc => Op1.indexArr ty27 ty25 (hc.old (v := .pointer (some ⟨_, _, none⟩)) rfl rfl rfl) rfl (by decide) (by decide) ⟨[], ⟨rfl, rfl⟩, hc.st⟩) ?_
            refine RunD.op (det _) tab17 12 (fun f' L' w' hc => Op1.loadA (vs := [.int .i32 _, .int .i32 _, .int .i32 _]) ty25 rfl (hc.det (j := 10) rfl rfl rfl rfl) rfl (cells_of_obj (n := 3) (hc.st.objL (List.mem_append_right _ (.tail _ (.head _)))) _ rfl) ⟨[], ⟨rfl, rfl⟩, hc.st⟩) ?_
            refine RunD.op (det _) tab17 13 (fun f' L' w' hc => Op1.move (v := .int .i64 _) (hc.old (v := .int .i64 _) rfl rfl rfl) ⟨[], ⟨rfl, rfl⟩, hc.st⟩) ?_
            refine RunD.op (det _) tab17 14 (fun f' L' w' hc => Op1.move (v := .int .i64 _) (hc.old (v := .int .i64 _) rfl rfl rfl) ⟨[], ⟨rfl, rfl⟩, hc.st⟩) ?_
            refine RunD.op (det _) tab17 15 (fun f' L' w' hc => Op1.call3 (v1 := .agg #[.int .i32 _, .int .i32 _, .int .i32 _]) (v2 := .int .i64 _) (v3 := .int .i64 _) ent48 rfl (hc.det (j := 11) rfl rfl rfl rfl) (hc.det (j := 12) rfl rfl rfl rfl) (hc.det (j := 13) rfl rfl rfl rfl) ((law28_moved _ _ _ _ _ (by omega) _).mono fun v w hp => ⟨[], ⟨hp.1, rfl⟩, hc.st.keepc hp.2⟩)) ?_
            refine RunD.op (det _) tab17 16 (fun f' L' w' hc => Op1.buildArr ty27 ty25 (.cons rfl (v := .agg #[.int .i32 _, .int .i32 _, .int .i32 _]) (hc.det (j := 4) rfl rfl rfl rfl) rfl rfl rfl (by repeat (first | exact Put.nil | apply Put.put | apply Put.skip)) (.cons rfl (v := .agg #[.int .i32 _, .int .i32 _, .int .i32 _]) (hc.det (j := 9) rfl rfl rfl rfl) rfl rfl rfl (by repeat (first | exact Put.nil | apply Put.put | apply Put.skip)) (.cons rfl (v := .agg #[.int .i32 _, .int .i32 _, .int .i32 _]) (hc.det (j := 14) rfl rfl rfl rfl) rfl rfl rfl (by repeat (first | exact Put.nil | apply Put.put | apply Put.skip)) .nil))) ⟨[], ⟨rfl, rfl⟩, hc.st⟩) ?_
            refine RunD.op (fun v rs => ∃ ao cp, v = .tuple #[.slice ao m.length cp, .int .i64 (errZ 1024 1024)] ∧ rs = [Res.sl ao m.length cp 56 3 (m.flatMap rowC)]) tab17 17 (fun f' L' w' hc => Op1.call3 (v1 := .agg #[.int .i32 _, .int .i32 _, .int .i32 _, .int .i32 _, .int .i32 _, .int .i32 _, .int .i32 _, .int .i32 _, .int .i32 _]) (v2 := .int .i64 _) (v3 := .int .i64 _) ent42 rfl (hc.det (j := 15) rfl rfl rfl rfl) rfl rfl ((cov_Rows2 _ _ _ _ _ _ _ _ _ _ _ _ hm).mono fun v w hp => (by obtain ⟨ao, cp, rfl, hp⟩ := hp; exact ⟨_, ⟨ao, cp, rfl, rfl⟩, hc.st.call0 hp⟩))) ?_
            refine RunD.opR (fun g v rs => v = g 111 ∧ rs = []) tab17 18 (fun f' L' w' hc => Op1.move (evs rfl rfl) ⟨[], fun g hg => ⟨(hg 16 111 rfl rfl).symm, rfl⟩, hc.st⟩) ?_
            refine RunD.opR (fun g v rs => (∀ ao cp, g 111 = .tuple #[.slice ao m.length cp, .int .i64 (errZ 1024 1024)] → v = .slice ao m.length cp) ∧ rs = []) tab17 19 (fun f' L' w' hc => by obtain ⟨_, _, q1, _⟩ := hc.dep 16 111 rfl rfl; obtain ⟨ao, cp, h111, _⟩ := q1; obtain ⟨g17, _, q2, hg17, _⟩ := hc.dep 17 94 rfl rfl; have h94 : f' 94 = .tuple #[.slice ao m.length cp, .int .i64 (errZ 1024 1024)] := (by rw [q2.1, hg17 16 111 rfl rfl, h111]); exact Op1.extract (v := .slice ao m.length cp) (evs h94 rfl) rfl ⟨[], fun g hg => ⟨fun ao2 cp2 e => (by rw [hg 16 111 rfl rfl, h111] at e; cases e; rfl), rfl⟩, hc.st⟩) ?_
            refine RunD.op (det (.int .i64 (errZ 1024 1024))) tab17 20 (fun f' L' w' hc => by obtain ⟨_, _, q1, _⟩ := hc.dep 16 111 rfl rfl; obtain ⟨ao, cp, h111, _⟩ := q1; obtain ⟨g17, _, q2, hg17, _⟩ := hc.dep 17 94 rfl rfl; have h94 : f' 94 = .tuple #[.slice ao m.length cp, .int .i64 (errZ 1024 1024)] := (by rw [q2.1, hg17 16 111 rfl rfl, h111]); exact Op1.extract (v := .int .i64 (errZ 1024 1024)) (evs h94 rfl) rfl ⟨[], ⟨rfl, rfl⟩, hc.st⟩) ?_
            refine RunD.opR (fun g v rs => v = g 112 ∧ rs = []) tab17 21 (fun f' L' w' hc => Op1.assign (evs rfl rfl) ⟨[], fun g hg => ⟨(hg 18 112 rfl rfl).symm, rfl⟩, hc.st⟩) ?_
            refine RunD.fin followsMixed tab17 hst rfl (fun f18 w R21 hs19 hd20 hr22 hst => ?_)
            obtain ⟨h95_, r0⟩ := hd20 0 95 rfl rfl
            obtain ⟨h96_, r1⟩ := hd20 1 96 rfl rfl
            obtain ⟨h97_, r2⟩ := hd20 2 97 rfl rfl
            obtain ⟨h98_, r3⟩ := hd20 3 98 rfl rfl
            obtain ⟨h99_, r4⟩ := hd20 4 99 rfl rfl
            obtain ⟨h100_, r5⟩ := hd20 5 100 rfl rfl
            obtain ⟨h101_, r6⟩ := hd20 6 101 rfl rfl
            obtain ⟨h102_, r7⟩ := hd20 7 102 rfl rfl
            obtain ⟨h103_, r8⟩ := hd20 8 103 rfl rfl
            obtain ⟨h104_, r9⟩ := hd20 9 104 rfl rfl
            obtain ⟨h105_, r10⟩ := hd20 10 105 rfl rfl
            obtain ⟨h106_, r11⟩ := hd20 11 106 rfl rfl
            obtain ⟨h107_, r12⟩ := hd20 12 107 rfl rfl
            obtain ⟨h108_, r13⟩ := hd20 13 108 rfl rfl
            obtain ⟨h109_, r14⟩ := hd20 14 109 rfl rfl
            obtain ⟨h110_, r15⟩ := hd20 15 110 rfl rfl
            obtain ⟨aoM, cpM, h111_, r16⟩ := hd20 16 111 rfl rfl
            obtain ⟨h94_, r17⟩ := hd20 17 94 rfl rfl
            rw [DrawTab.mask tab17 _ (j := 17) (l := 16) (t := 111) rfl rfl, h111_] at h94_
            obtain ⟨h112_, r18⟩ := hd20 18 112 rfl rfl
            replace h112_ := h112_ aoM cpM ((DrawTab.mask tab17 _ (j := 18) (l := 16) (t := 111) rfl rfl).trans h111_)
            obtain ⟨h113_, r19⟩ := hd20 19 113 rfl rfl
            obtain ⟨h16_, r20⟩ := hd20 20 16 rfl rfl
            rw [DrawTab.mask tab17 _ (j := 20) (l := 18) (t := 112) rfl rfl, h112_] at h16_
            simp only [show List.range 21 = [0, 1, 2, 3, 4, 5, 6, 7, 8, 9, 10, 11, 12, 13, 14, 15, 16, 17, 18, 19, 20] from rfl, List.flatMap_cons, List.flatMap_nil, List.map_cons, List.map_nil, r0, r1, r2, r3, r4, r5, r6, r7, r8, r9, r10, r11, r12, r13, r14, r15, r16, r17, r18, r19, r20, List.nil_append, List.append_nil, List.cons_append] at hst
            refine RunL.slots (sl := [(1, .int .i64 _), (2, .int .i64 _), (12, .int .i64 _), (13, .int .i64 _), (14, .slice _ _ _), (15, .int .i64 _), (16, .slice _ _ _), (113, .int .i64 _)]) ⟨(hs19 1 rfl).trans rfl, (hs19 2 rfl).trans rfl, (hs19 12 rfl).trans rfl, (hs19 13 rfl).trans rfl, (hs19 14 rfl).trans rfl, (hs19 15 rfl).trans rfl, h16_, h113_, trivial⟩ ?_
            clear hs19 hd20 hr22 tab17
            refine RunL.cons (Op1.assign (v := .int .i64 _) rfl ?_)
            refine RunL.nil ?_
            refine run_seq ?_
            refine run_region ?_
            refine RunL.cons (Op1.move (v := .int .i64 _) rfl ?_)
            refine RunL.cons (Op1.eql rfl rfl ?_)
            refine RunL.cons (Op1.move (v := .bool _) rfl ?_)
            refine RunL.splitD (d := 116) rfl (fun g23 => ?_) (fun g23 => ?_)
            · skip
              refine RunL.take (t := 116) rfl (congrArg Value.bool (decide_eq_true g23)) (Op1.move (v := .int .i64 _) rfl ?_)
              refine RunL.take (t := 116) rfl (congrArg Value.bool (decide_eq_true g23)) (Op1.eql rfl rfl ?_)
              refine RunL.cons (Op1.pickT (u := .bool _) (congrArg Value.bool (decide_eq_true g23)) rfl ?_)
              refine RunL.cons (Op1.move (v := .bool _) rfl ?_)
              refine RunL.splitD (d := 120) rfl (fun g24 => ?_) (fun g24 => ?_)
              · skip
                refine RunL.take (t := 120) rfl (congrArg Value.bool (decide_eq_true g24)) (Op1.move (v := .slice _ _ _) rfl ?_)
                refine RunL.take (t := 120) rfl (congrArg Value.bool (decide_eq_true g24)) (Op1.move (v := .int .i64 _) rfl ?_)
                refine RunL.take (t := 120) rfl (congrArg Value.bool (decide_eq_true g24)) (Op1.move (v := .int .i64 _) rfl ?_)
                refine RunL.take (t := 120) rfl (congrArg Value.bool (decide_eq_true g24)) (Op1.call3 (v1 := .slice _ _ _) (v2 := .int .i64 _) (v3 := .int .i64 _) ent46 rfl rfl rfl rfl ((law28_has _ _ _ _ _ _ (hst.hL _ (.tail _ (.head _))) hbl).mono fun v w hp => ?_))
                obtain ⟨rfl, hp⟩ := hp
                replace hst := hst.keepc hp
                clear hp
                refine RunL.take (t := 120) rfl (congrArg Value.bool (decide_eq_true g24)) (Op1.move (v := .slice _ _ _) rfl ?_)
                refine RunL.take (t := 120) rfl (congrArg Value.bool (decide_eq_true g24)) (Op1.move (v := .int .i64 _) rfl ?_)
                refine RunL.take (t := 120) rfl (congrArg Value.bool (decide_eq_true g24)) (Op1.move (v := .int .i64 _) rfl ?_)
                refine RunL.take (t := 120) rfl (congrArg Value.bool (decide_eq_true g24)) (Op1.call3 (v1 := .slice _ _ _) (v2 := .int .i64 _) (v3 := .int .i64 _) ent46 rfl rfl rfl rfl ((law28_has _ _ _ _ _ _ (hst.hL _ (.head _)) hbm).mono fun v w hp => ?_))
                obtain ⟨rfl, hp⟩ := hp
                replace hst := hst.keepc hp
                clear hp
                refine RunL.take (t := 120) rfl (congrArg Value.bool (decide_eq_true g24)) (Op1.eqlB ty4 rfl rfl ?_)
                refine RunL.cons (Op1.pickT (u := .bool _) (congrArg Value.bool (decide_eq_true g24)) rfl ?_)
                refine RunL.cons (Op1.move (v := .bool _) rfl ?_)
                refine RunL.split (d := 131) rfl (fun g25 => ?_) (fun g25 => ?_)
                · skip
                  refine RunL.take (t := 131) rfl (congrArg Value.bool g25) (Op1.call0  ent40 rfl  ((law28_awake _).mono fun v w hp => ?_))
                  obtain ⟨rfl, hp⟩ := hp
                  replace hst := hst.keepc hp
                  clear hp
                  refine RunL.cons (Op1.pickT (u := .bool _) (congrArg Value.bool g25) rfl ?_)
                  refine RunL.cons (Op1.assign (v := .bool _) rfl ?_)
                  refine RunL.nil ?_
                  refine run_ret1 Try.func16 rfl (RV.tmp (v := .bool _) rfl) ?_
                  exact ⟨rfl, hst.pure⟩
                · skip
                  exfalso
                  (have hh := has_move (ax := ax) (ay := ay) (bx := bx) (by_ := by_) (cx := cx) (cy := cy) (x := x) (y := y) (dx := dx) (dy := dy) (by omega) (by omega) (by omega) (by omega) (by omega) (by omega) (by omega) (by omega) (by omega); rw [hl, hm] at hh; simp [hh] at g25)
              · skip
                exfalso
                exact g24 (by decide)
            · skip
              exfalso
              exact g23 (by decide)
          · skip
            refine run_seq ?_
            refine run_region ?_
            refine RunL.cons (Op1.move (v := .int .i64 _) rfl ?_)
            refine RunL.cons (Op1.lss rfl rfl ?_)
            refine RunL.cons (Op1.move (v := .bool _) rfl ?_)
            refine RunL.splitD (d := 76) rfl (fun g26 => ?_) (fun g26 => ?_)
            · skip
              refine RunL.omit (t := 76) rfl (congrArg Value.bool (decide_eq_true g26)) rfl ?_
              refine RunL.omit (t := 76) rfl (congrArg Value.bool (decide_eq_true g26)) rfl ?_
              refine RunL.cons (Op1.pickT (u := .bool _) (congrArg Value.bool (decide_eq_true g26)) rfl ?_)
              refine RunL.cons (Op1.move (v := .bool _) rfl ?_)
              refine RunL.omit (t := 80) rfl (congrArg Value.bool (rfl : true = _)) rfl ?_
              refine RunL.omit (t := 80) rfl (congrArg Value.bool (rfl : true = _)) rfl ?_
              refine RunL.cons (Op1.pickT (u := .bool _) (congrArg Value.bool (rfl : true = _)) rfl ?_)
              refine RunL.cons (Op1.move (v := .bool _) rfl ?_)
              refine RunL.omit (t := 84) rfl (congrArg Value.bool (rfl : true = _)) rfl ?_
              refine RunL.omit (t := 84) rfl (congrArg Value.bool (rfl : true = _)) rfl ?_
              refine RunL.cons (Op1.pickT (u := .bool _) (congrArg Value.bool (rfl : true = _)) rfl ?_)
              refine RunL.nil ?_
              refine run_cond_true (congrArg Value.bool (rfl : true = _)) ?_
              refine run_seq ?_
              refine run_region ?_
              refine RunL.cons (Op1.call0  ent40 rfl  ((law28_awake _).mono fun v w hp => ?_))
              obtain ⟨rfl, hp⟩ := hp
              replace hst := hst.keepc hp
              clear hp
              refine RunL.cons (Op1.assign (v := .bool _) rfl ?_)
              refine RunL.nil ?_
              refine run_ret1 Try.func16 rfl (RV.tmp (v := .bool _) rfl) ?_
              exact ⟨rfl, hst.pure⟩
            · skip
              refine RunL.take (t := 76) rfl (congrArg Value.bool (decide_eq_false g26)) (Op1.move (v := .int .i64 _) rfl ?_)
              refine RunL.take (t := 76) rfl (congrArg Value.bool (decide_eq_false g26)) (Op1.geq rfl rfl ?_)
              refine RunL.cons (Op1.pickF (u := .bool _) (congrArg Value.bool (decide_eq_false g26)) rfl ?_)
              refine RunL.cons (Op1.move (v := .bool _) rfl ?_)
              refine RunL.splitD (d := 80) rfl (fun g27 => ?_) (fun g27 => ?_)
              · skip
                refine RunL.omit (t := 80) rfl (congrArg Value.bool (decide_eq_true g27)) rfl ?_
                refine RunL.omit (t := 80) rfl (congrArg Value.bool (decide_eq_true g27)) rfl ?_
                refine RunL.cons (Op1.pickT (u := .bool _) (congrArg Value.bool (decide_eq_true g27)) rfl ?_)
                refine RunL.cons (Op1.move (v := .bool _) rfl ?_)
                refine RunL.omit (t := 84) rfl (congrArg Value.bool (rfl : true = _)) rfl ?_
                refine RunL.omit (t := 84) rfl (congrArg Value.bool (rfl : true = _)) rfl ?_
                refine RunL.cons (Op1.pickT (u := .bool _) (congrArg Value.bool (rfl : true = _)) rfl ?_)
                refine RunL.nil ?_
                refine run_cond_true (congrArg Value.bool (rfl : true = _)) ?_
                refine run_seq ?_
                refine run_region ?_
                refine RunL.cons (Op1.call0  ent40 rfl  ((law28_awake _).mono fun v w hp => ?_))
                obtain ⟨rfl, hp⟩ := hp
                replace hst := hst.keepc hp
                clear hp
                refine RunL.cons (Op1.assign (v := .bool _) rfl ?_)
                refine RunL.nil ?_
                refine run_ret1 Try.func16 rfl (RV.tmp (v := .bool _) rfl) ?_
                exact ⟨rfl, hst.pure⟩
              · skip
                refine RunL.take (t := 80) rfl (congrArg Value.bool (decide_eq_false g27)) (Op1.move (v := .int .i64 _) rfl ?_)
                refine RunL.take (t := 80) rfl (congrArg Value.bool (decide_eq_false g27)) (Op1.lss rfl rfl ?_)
                refine RunL.cons (Op1.pickF (u := .bool _) (congrArg Value.bool (decide_eq_false g27)) rfl ?_)
                refine RunL.cons (Op1.move (v := .bool _) rfl ?_)
                refine RunL.splitD (d := 84) rfl (fun g28 => ?_) (fun g28 => ?_)
                · skip
                  refine RunL.omit (t := 84) rfl (congrArg Value.bool (decide_eq_true g28)) rfl ?_
                  refine RunL.omit (t := 84) rfl (congrArg Value.bool (decide_eq_true g28)) rfl ?_
                  refine RunL.cons (Op1.pickT (u := .bool _) (congrArg Value.bool (decide_eq_true g28)) rfl ?_)
                  refine RunL.nil ?_
                  refine run_cond_true (congrArg Value.bool (rfl : true = _)) ?_
                  refine run_seq ?_
                  refine run_region ?_
                  refine RunL.cons (Op1.call0  ent40 rfl  ((law28_awake _).mono fun v w hp => ?_))
                  obtain ⟨rfl, hp⟩ := hp
                  replace hst := hst.keepc hp
                  clear hp
                  refine RunL.cons (Op1.assign (v := .bool _) rfl ?_)
                  refine RunL.nil ?_
                  refine run_ret1 Try.func16 rfl (RV.tmp (v := .bool _) rfl) ?_
                  exact ⟨rfl, hst.pure⟩
                · skip
                  refine RunL.take (t := 84) rfl (congrArg Value.bool (decide_eq_false g28)) (Op1.move (v := .int .i64 _) rfl ?_)
                  refine RunL.take (t := 84) rfl (congrArg Value.bool (decide_eq_false g28)) (Op1.geq rfl rfl ?_)
                  refine RunL.cons (Op1.pickF (u := .bool _) (congrArg Value.bool (decide_eq_false g28)) rfl ?_)
                  refine RunL.nil ?_
                  refine run_cond_dec rfl (fun g29 => ?_) (fun g29 => ?_)
                  · skip
                    refine run_seq ?_
                    refine run_region ?_
                    refine RunL.cons (Op1.call0  ent40 rfl  ((law28_awake _).mono fun v w hp => ?_))
                    obtain ⟨rfl, hp⟩ := hp
                    replace hst := hst.keepc hp
                    clear hp
                    refine RunL.cons (Op1.assign (v := .bool _) rfl ?_)
                    refine RunL.nil ?_
                    refine run_ret1 Try.func16 rfl (RV.tmp (v := .bool _) rfl) ?_
                    exact ⟨rfl, hst.pure⟩
                  · skip
                    refine run_skip ?_
                    exact cut13 _ w hst (by omega) ⟨rfl, rfl, rfl, rfl, rfl, rfl, rfl, trivial⟩
        · skip
          refine run_seq ?_
          refine run_region ?_
          refine RunL.cons (Op1.move (v := .int .i64 _) rfl ?_)
          refine RunL.cons (Op1.lss rfl rfl ?_)
          refine RunL.cons (Op1.move (v := .bool _) rfl ?_)
          refine RunL.splitD (d := 39) rfl (fun g30 => ?_) (fun g30 => ?_)
          · skip
            refine RunL.omit (t := 39) rfl (congrArg Value.bool (decide_eq_true g30)) rfl ?_
            refine RunL.omit (t := 39) rfl (congrArg Value.bool (decide_eq_true g30)) rfl ?_
            refine RunL.cons (Op1.pickT (u := .bool _) (congrArg Value.bool (decide_eq_true g30)) rfl ?_)
            refine RunL.cons (Op1.move (v := .bool _) rfl ?_)
            refine RunL.omit (t := 43) rfl (congrArg Value.bool (rfl : true = _)) rfl ?_
            refine RunL.omit (t := 43) rfl (congrArg Value.bool (rfl : true = _)) rfl ?_
            refine RunL.cons (Op1.pickT (u := .bool _) (congrArg Value.bool (rfl : true = _)) rfl ?_)
            refine RunL.cons (Op1.move (v := .bool _) rfl ?_)
            refine RunL.omit (t := 47) rfl (congrArg Value.bool (rfl : true = _)) rfl ?_
            refine RunL.omit (t := 47) rfl (congrArg Value.bool (rfl : true = _)) rfl ?_
            refine RunL.cons (Op1.pickT (u := .bool _) (congrArg Value.bool (rfl : true = _)) rfl ?_)
            refine RunL.cons (Op1.move (v := .bool _) rfl ?_)
            refine RunL.omit (t := 51) rfl (congrArg Value.bool (rfl : true = _)) rfl ?_
            refine RunL.omit (t := 51) rfl (congrArg Value.bool (rfl : true = _)) rfl ?_
            refine RunL.cons (Op1.pickT (u := .bool _) (congrArg Value.bool (rfl : true = _)) rfl ?_)
            refine RunL.cons (Op1.move (v := .bool _) rfl ?_)
            refine RunL.omit (t := 55) rfl (congrArg Value.bool (rfl : true = _)) rfl ?_
            refine RunL.omit (t := 55) rfl (congrArg Value.bool (rfl : true = _)) rfl ?_
            refine RunL.cons (Op1.pickT (u := .bool _) (congrArg Value.bool (rfl : true = _)) rfl ?_)
            refine RunL.cons (Op1.move (v := .bool _) rfl ?_)
            refine RunL.omit (t := 59) rfl (congrArg Value.bool (rfl : true = _)) rfl ?_
            refine RunL.omit (t := 59) rfl (congrArg Value.bool (rfl : true = _)) rfl ?_
            refine RunL.cons (Op1.pickT (u := .bool _) (congrArg Value.bool (rfl : true = _)) rfl ?_)
            refine RunL.cons (Op1.move (v := .bool _) rfl ?_)
            refine RunL.omit (t := 63) rfl (congrArg Value.bool (rfl : true = _)) rfl ?_
            refine RunL.omit (t := 63) rfl (congrArg Value.bool (rfl : true = _)) rfl ?_
            refine RunL.cons (Op1.pickT (u := .bool _) (congrArg Value.bool (rfl : true = _)) rfl ?_)
            refine RunL.nil ?_
            refine run_cond_true (congrArg Value.bool (rfl : true = _)) ?_
            refine run_seq ?_
            refine run_region ?_
            refine RunL.cons (Op1.call0  ent40 rfl  ((law28_awake _).mono fun v w hp => ?_))
            obtain ⟨rfl, hp⟩ := hp
            replace hst := hst.keepc hp
            clear hp
            refine RunL.cons (Op1.assign (v := .bool _) rfl ?_)
            refine RunL.nil ?_
            refine run_ret1 Try.func16 rfl (RV.tmp (v := .bool _) rfl) ?_
            exact ⟨rfl, hst.pure⟩
          · skip
            refine RunL.take (t := 39) rfl (congrArg Value.bool (decide_eq_false g30)) (Op1.move (v := .int .i64 _) rfl ?_)
            refine RunL.take (t := 39) rfl (congrArg Value.bool (decide_eq_false g30)) (Op1.gtr rfl rfl ?_)
            refine RunL.cons (Op1.pickF (u := .bool _) (congrArg Value.bool (decide_eq_false g30)) rfl ?_)
            refine RunL.cons (Op1.move (v := .bool _) rfl ?_)
            refine RunL.splitD (d := 43) rfl (fun g31 => ?_) (fun g31 => ?_)
            · skip
              refine RunL.omit (t := 43) rfl (congrArg Value.bool (decide_eq_true g31)) rfl ?_
              refine RunL.omit (t := 43) rfl (congrArg Value.bool (decide_eq_true g31)) rfl ?_
              refine RunL.cons (Op1.pickT (u := .bool _) (congrArg Value.bool (decide_eq_true g31)) rfl ?_)
              refine RunL.cons (Op1.move (v := .bool _) rfl ?_)
              refine RunL.omit (t := 47) rfl (congrArg Value.bool (rfl : true = _)) rfl ?_
              refine RunL.omit (t := 47) rfl (congrArg Value.bool (rfl : true = _)) rfl ?_
              refine RunL.cons (Op1.pickT (u := .bool _) (congrArg Value.bool (rfl : true = _)) rfl ?_)
              refine RunL.cons (Op1.move (v := .bool _) rfl ?_)
              refine RunL.omit (t := 51) rfl (congrArg Value.bool (rfl : true = _)) rfl ?_
              refine RunL.omit (t := 51) rfl (congrArg Value.bool (rfl : true = _)) rfl ?_
              refine RunL.cons (Op1.pickT (u := .bool _) (congrArg Value.bool (rfl : true = _)) rfl ?_)
              refine RunL.cons (Op1.move (v := .bool _) rfl ?_)
              refine RunL.omit (t := 55) rfl (congrArg Value.bool (rfl : true = _)) rfl ?_
              refine RunL.omit (t := 55) rfl (congrArg Value.bool (rfl : true = _)) rfl ?_
              refine RunL.cons (Op1.pickT (u := .bool _) (congrArg Value.bool (rfl : true = _)) rfl ?_)
              refine RunL.cons (Op1.move (v := .bool _) rfl ?_)
              refine RunL.omit (t := 59) rfl (congrArg Value.bool (rfl : true = _)) rfl ?_
              refine RunL.omit (t := 59) rfl (congrArg Value.bool (rfl : true = _)) rfl ?_
              refine RunL.cons (Op1.pickT (u := .bool _) (congrArg Value.bool (rfl : true = _)) rfl ?_)
              refine RunL.cons (Op1.move (v := .bool _) rfl ?_)
              refine RunL.omit (t := 63) rfl (congrArg Value.bool (rfl : true = _)) rfl ?_
              refine RunL.omit (t := 63) rfl (congrArg Value.bool (rfl : true = _)) rfl ?_
              refine RunL.cons (Op1.pickT (u := .bool _) (congrArg Value.bool (rfl : true = _)) rfl ?_)
              refine RunL.nil ?_
              refine run_cond_true (congrArg Value.bool (rfl : true = _)) ?_
              refine run_seq ?_
              refine run_region ?_
              refine RunL.cons (Op1.call0  ent40 rfl  ((law28_awake _).mono fun v w hp => ?_))
              obtain ⟨rfl, hp⟩ := hp
              replace hst := hst.keepc hp
              clear hp
              refine RunL.cons (Op1.assign (v := .bool _) rfl ?_)
              refine RunL.nil ?_
              refine run_ret1 Try.func16 rfl (RV.tmp (v := .bool _) rfl) ?_
              exact ⟨rfl, hst.pure⟩
            · skip
              refine RunL.take (t := 43) rfl (congrArg Value.bool (decide_eq_false g31)) (Op1.move (v := .int .i64 _) rfl ?_)
              refine RunL.take (t := 43) rfl (congrArg Value.bool (decide_eq_false g31)) (Op1.lss rfl rfl ?_)
              refine RunL.cons (Op1.pickF (u := .bool _) (congrArg Value.bool (decide_eq_false g31)) rfl ?_)
              refine RunL.cons (Op1.move (v := .bool _) rfl ?_)
              refine RunL.splitD (d := 47) rfl (fun g32 => ?_) (fun g32 => ?_)
              · skip
                refine RunL.omit (t := 47) rfl (congrArg Value.bool (decide_eq_true g32)) rfl ?_
                refine RunL.omit (t := 47) rfl (congrArg Value.bool (decide_eq_true g32)) rfl ?_
                refine RunL.cons (Op1.pickT (u := .bool _) (congrArg Value.bool (decide_eq_true g32)) rfl ?_)
                refine RunL.cons (Op1.move (v := .bool _) rfl ?_)
                refine RunL.omit (t := 51) rfl (congrArg Value.bool (rfl : true = _)) rfl ?_
                refine RunL.omit (t := 51) rfl (congrArg Value.bool (rfl : true = _)) rfl ?_
                refine RunL.cons (Op1.pickT (u := .bool _) (congrArg Value.bool (rfl : true = _)) rfl ?_)
                refine RunL.cons (Op1.move (v := .bool _) rfl ?_)
                refine RunL.omit (t := 55) rfl (congrArg Value.bool (rfl : true = _)) rfl ?_
                refine RunL.omit (t := 55) rfl (congrArg Value.bool (rfl : true = _)) rfl ?_
                refine RunL.cons (Op1.pickT (u := .bool _) (congrArg Value.bool (rfl : true = _)) rfl ?_)
                refine RunL.cons (Op1.move (v := .bool _) rfl ?_)
                refine RunL.omit (t := 59) rfl (congrArg Value.bool (rfl : true = _)) rfl ?_
                refine RunL.omit (t := 59) rfl (congrArg Value.bool (rfl : true = _)) rfl ?_
                refine RunL.cons (Op1.pickT (u := .bool _) (congrArg Value.bool (rfl : true = _)) rfl ?_)
                refine RunL.cons (Op1.move (v := .bool _) rfl ?_)
                refine RunL.omit (t := 63) rfl (congrArg Value.bool (rfl : true = _)) rfl ?_
                refine RunL.omit (t := 63) rfl (congrArg Value.bool (rfl : true = _)) rfl ?_
                refine RunL.cons (Op1.pickT (u := .bool _) (congrArg Value.bool (rfl : true = _)) rfl ?_)
                refine RunL.nil ?_
                refine run_cond_true (congrArg Value.bool (rfl : true = _)) ?_
                refine run_seq ?_
                refine run_region ?_
                refine RunL.cons (Op1.call0  ent40 rfl  ((law28_awake _).mono fun v w hp => ?_))
                obtain ⟨rfl, hp⟩ := hp
                replace hst := hst.keepc hp
                clear hp
                refine RunL.cons (Op1.assign (v := .bool _) rfl ?_)
                refine RunL.nil ?_
                refine run_ret1 Try.func16 rfl (RV.tmp (v := .bool _) rfl) ?_
                exact ⟨rfl, hst.pure⟩
              · skip
                refine RunL.take (t := 47) rfl (congrArg Value.bool (decide_eq_false g32)) (Op1.move (v := .int .i64 _) rfl ?_)
                refine RunL.take (t := 47) rfl (congrArg Value.bool (decide_eq_false g32)) (Op1.gtr rfl rfl ?_)
                refine RunL.cons (Op1.pickF (u := .bool _) (congrArg Value.bool (decide_eq_false g32)) rfl ?_)
                refine RunL.cons (Op1.move (v := .bool _) rfl ?_)
                refine RunL.splitD (d := 51) rfl (fun g33 => ?_) (fun g33 => ?_)
                · skip
                  refine RunL.omit (t := 51) rfl (congrArg Value.bool (decide_eq_true g33)) rfl ?_
                  refine RunL.omit (t := 51) rfl (congrArg Value.bool (decide_eq_true g33)) rfl ?_
                  refine RunL.cons (Op1.pickT (u := .bool _) (congrArg Value.bool (decide_eq_true g33)) rfl ?_)
                  refine RunL.cons (Op1.move (v := .bool _) rfl ?_)
                  refine RunL.omit (t := 55) rfl (congrArg Value.bool (rfl : true = _)) rfl ?_
                  refine RunL.omit (t := 55) rfl (congrArg Value.bool (rfl : true = _)) rfl ?_
                  refine RunL.cons (Op1.pickT (u := .bool _) (congrArg Value.bool (rfl : true = _)) rfl ?_)
                  refine RunL.cons (Op1.move (v := .bool _) rfl ?_)
                  refine RunL.omit (t := 59) rfl (congrArg Value.bool (rfl : true = _)) rfl ?_
                  refine RunL.omit (t := 59) rfl (congrArg Value.bool (rfl : true = _)) rfl ?_
                  refine RunL.cons (Op1.pickT (u := .bool _) (congrArg Value.bool (rfl : true = _)) rfl ?_)
                  refine RunL.cons (Op1.move (v := .bool _) rfl ?_)
                  refine RunL.omit (t := 63) rfl (congrArg Value.bool (rfl : true = _)) rfl ?_
                  refine RunL.omit (t := 63) rfl (congrArg Value.bool (rfl : true = _)) rfl ?_
                  refine RunL.cons (Op1.pickT (u := .bool _) (congrArg Value.bool (rfl : true = _)) rfl ?_)
                  refine RunL.nil ?_
                  refine run_cond_true (congrArg Value.bool (rfl : true = _)) ?_
                  refine run_seq ?_
                  refine run_region ?_
                  refine RunL.cons (Op1.call0  ent40 rfl  ((law28_awake _).mono fun v w hp => ?_))
                  obtain ⟨rfl, hp⟩ := hp
                  replace hst := hst.keepc hp
                  clear hp
                  refine RunL.cons (Op1.assign (v := .bool _) rfl ?_)
                  refine RunL.nil ?_
                  refine run_ret1 Try.func16 rfl (RV.tmp (v := .bool _) rfl) ?_
                  exact ⟨rfl, hst.pure⟩
                · skip
                  refine RunL.take (t := 51) rfl (congrArg Value.bool (decide_eq_false g33)) (Op1.move (v := .int .i64 _) rfl ?_)
                  refine RunL.take (t := 51) rfl (congrArg Value.bool (decide_eq_false g33)) (Op1.lss rfl rfl ?_)
                  refine RunL.cons (Op1.pickF (u := .bool _) (congrArg Value.bool (decide_eq_false g33)) rfl ?_)
                  refine RunL.cons (Op1.move (v := .bool _) rfl ?_)
                  refine RunL.splitD (d := 55) rfl (fun g34 => ?_) (fun g34 => ?_)
                  · skip
                    refine RunL.omit (t := 55) rfl (congrArg Value.bool (decide_eq_true g34)) rfl ?_
                    refine RunL.omit (t := 55) rfl (congrArg Value.bool (decide_eq_true g34)) rfl ?_
                    refine RunL.cons (Op1.pickT (u := .bool _) (congrArg Value.bool (decide_eq_true g34)) rfl ?_)
                    refine RunL.cons (Op1.move (v := .bool _) rfl ?_)
                    refine RunL.omit (t := 59) rfl (congrArg Value.bool (rfl : true = _)) rfl ?_
                    refine RunL.omit (t := 59) rfl (congrArg Value.bool (rfl : true = _)) rfl ?_
                    refine RunL.cons (Op1.pickT (u := .bool _) (congrArg Value.bool (rfl : true = _)) rfl ?_)
                    refine RunL.cons (Op1.move (v := .bool _) rfl ?_)
                    refine RunL.omit (t := 63) rfl (congrArg Value.bool (rfl : true = _)) rfl ?_
                    refine RunL.omit (t := 63) rfl (congrArg Value.bool (rfl : true = _)) rfl ?_
                    refine RunL.cons (Op1.pickT (u := .bool _) (congrArg Value.bool (rfl : true = _)) rfl ?_)
                    refine RunL.nil ?_
                    refine run_cond_true (congrArg Value.bool (rfl : true = _)) ?_
                    refine run_seq ?_
                    refine run_region ?_
                    refine RunL.cons (Op1.call0  ent40 rfl  ((law28_awake _).mono fun v w hp => ?_))
                    obtain ⟨rfl, hp⟩ := hp
                    replace hst := hst.keepc hp
                    clear hp
                    refine RunL.cons (Op1.assign (v := .bool _) rfl ?_)
                    refine RunL.nil ?_
                    refine run_ret1 Try.func16 rfl (RV.tmp (v := .bool _) rfl) ?_
                    exact ⟨rfl, hst.pure⟩
                  · skip
                    refine RunL.take (t := 55) rfl (congrArg Value.bool (decide_eq_false g34)) (Op1.move (v := .int .i64 _) rfl ?_)
                    refine RunL.take (t := 55) rfl (congrArg Value.bool (decide_eq_false g34)) (Op1.geq rfl rfl ?_)
                    refine RunL.cons (Op1.pickF (u := .bool _) (congrArg Value.bool (decide_eq_false g34)) rfl ?_)
                    refine RunL.cons (Op1.move (v := .bool _) rfl ?_)
                    refine RunL.splitD (d := 59) rfl (fun g35 => ?_) (fun g35 => ?_)
                    · skip
                      refine RunL.omit (t := 59) rfl (congrArg Value.bool (decide_eq_true g35)) rfl ?_
                      refine RunL.omit (t := 59) rfl (congrArg Value.bool (decide_eq_true g35)) rfl ?_
                      refine RunL.cons (Op1.pickT (u := .bool _) (congrArg Value.bool (decide_eq_true g35)) rfl ?_)
                      refine RunL.cons (Op1.move (v := .bool _) rfl ?_)
                      refine RunL.omit (t := 63) rfl (congrArg Value.bool (rfl : true = _)) rfl ?_
                      refine RunL.omit (t := 63) rfl (congrArg Value.bool (rfl : true = _)) rfl ?_
                      refine RunL.cons (Op1.pickT (u := .bool _) (congrArg Value.bool (rfl : true = _)) rfl ?_)
                      refine RunL.nil ?_
                      refine run_cond_true (congrArg Value.bool (rfl : true = _)) ?_
                      refine run_seq ?_
                      refine run_region ?_
                      refine RunL.cons (Op1.call0  ent40 rfl  ((law28_awake _).mono fun v w hp => ?_))
                      obtain ⟨rfl, hp⟩ := hp
                      replace hst := hst.keepc hp
                      clear hp
                      refine RunL.cons (Op1.assign (v := .bool _) rfl ?_)
                      refine RunL.nil ?_
                      refine run_ret1 Try.func16 rfl (RV.tmp (v := .bool _) rfl) ?_
                      exact ⟨rfl, hst.pure⟩
                    · skip
                      refine RunL.take (t := 59) rfl (congrArg Value.bool (decide_eq_false g35)) (Op1.move (v := .int .i64 _) rfl ?_)
                      refine RunL.take (t := 59) rfl (congrArg Value.bool (decide_eq_false g35)) (Op1.lss rfl rfl ?_)
                      refine RunL.cons (Op1.pickF (u := .bool _) (congrArg Value.bool (decide_eq_false g35)) rfl ?_)
                      refine RunL.cons (Op1.move (v := .bool _) rfl ?_)
                      refine RunL.splitD (d := 63) rfl (fun g36 => ?_) (fun g36 => ?_)
                      · skip
                        refine RunL.omit (t := 63) rfl (congrArg Value.bool (decide_eq_true g36)) rfl ?_
                        refine RunL.omit (t := 63) rfl (congrArg Value.bool (decide_eq_true g36)) rfl ?_
                        refine RunL.cons (Op1.pickT (u := .bool _) (congrArg Value.bool (decide_eq_true g36)) rfl ?_)
                        refine RunL.nil ?_
                        refine run_cond_true (congrArg Value.bool (rfl : true = _)) ?_
                        refine run_seq ?_
                        refine run_region ?_
                        refine RunL.cons (Op1.call0  ent40 rfl  ((law28_awake _).mono fun v w hp => ?_))
                        obtain ⟨rfl, hp⟩ := hp
                        replace hst := hst.keepc hp
                        clear hp
                        refine RunL.cons (Op1.assign (v := .bool _) rfl ?_)
                        refine RunL.nil ?_
                        refine run_ret1 Try.func16 rfl (RV.tmp (v := .bool _) rfl) ?_
                        exact ⟨rfl, hst.pure⟩
                      · skip
                        refine RunL.take (t := 63) rfl (congrArg Value.bool (decide_eq_false g36)) (Op1.move (v := .int .i64 _) rfl ?_)
                        refine RunL.take (t := 63) rfl (congrArg Value.bool (decide_eq_false g36)) (Op1.geq rfl rfl ?_)
                        refine RunL.cons (Op1.pickF (u := .bool _) (congrArg Value.bool (decide_eq_false g36)) rfl ?_)
                        refine RunL.nil ?_
                        refine run_cond_dec rfl (fun g37 => ?_) (fun g37 => ?_)
                        · skip
                          refine run_seq ?_
                          refine run_region ?_
                          refine RunL.cons (Op1.call0  ent40 rfl  ((law28_awake _).mono fun v w hp => ?_))
                          obtain ⟨rfl, hp⟩ := hp
                          replace hst := hst.keepc hp
                          clear hp
                          refine RunL.cons (Op1.assign (v := .bool _) rfl ?_)
                          refine RunL.nil ?_
                          refine run_ret1 Try.func16 rfl (RV.tmp (v := .bool _) rfl) ?_
                          exact ⟨rfl, hst.pure⟩
                        · skip
                          refine run_skip ?_
                          exact cut10 _ w hst (by omega) ⟨rfl, rfl, rfl, rfl, rfl, trivial⟩
      · skip
        refine run_seq ?_
        refine run_region ?_
        refine RunL.cons (Op1.move (v := .int .i64 _) rfl ?_)
        refine RunL.cons (Op1.indexArr ty27 ty25 rfl rfl (by omega) (by omega) ?_)
        refine RunL.cons (Op1.fieldAddr fld25_0 rfl ?_)
        refine RunL.cons (Op1.load1 (v := .int .i32 _) ty21 rfl rfl (hst.cellL (.head _) rfl) ?_)
        refine RunL.cons (Op1.call1 (v1 := .int .i32 _) ent47 rfl rfl ((law28_small _ _).mono fun v w hp => ?_))
        obtain ⟨rfl, hp⟩ := hp
        replace hst := hst.keepc hp
        clear hp
        refine RunL.cons (Op1.notD rfl ?_)
        refine RunL.cons (Op1.move (v := .bool _) rfl ?_)
        refine RunL.splitD (d := 28) rfl (fun g38 => ?_) (fun g38 => ?_)
        · skip
          refine RunL.omit (t := 28) rfl (congrArg Value.bool (decide_eq_true g38)) rfl ?_
          refine RunL.omit (t := 28) rfl (congrArg Value.bool (decide_eq_true g38)) rfl ?_
          refine RunL.omit (t := 28) rfl (congrArg Value.bool (decide_eq_true g38)) rfl ?_
          refine RunL.omit (t := 28) rfl (congrArg Value.bool (decide_eq_true g38)) rfl ?_
          refine RunL.omit (t := 28) rfl (congrArg Value.bool (decide_eq_true g38)) rfl ?_
          refine RunL.omit (t := 28) rfl (congrArg Value.bool (decide_eq_true g38)) rfl ?_
          refine RunL.cons (Op1.pickT (u := .bool _) (congrArg Value.bool (decide_eq_true g38)) rfl ?_)
          refine RunL.nil ?_
          refine run_cond_true (congrArg Value.bool (rfl : true = _)) ?_
          refine run_seq ?_
          refine run_region ?_
          refine RunL.cons (Op1.call0  ent40 rfl  ((law28_awake _).mono fun v w hp => ?_))
          obtain ⟨rfl, hp⟩ := hp
          replace hst := hst.keepc hp
          clear hp
          refine RunL.cons (Op1.assign (v := .bool _) rfl ?_)
          refine RunL.nil ?_
          refine run_ret1 Try.func16 rfl (RV.tmp (v := .bool _) rfl) ?_
          exact ⟨rfl, hst.pure⟩
        · skip
          refine RunL.take (t := 28) rfl (congrArg Value.bool (decide_eq_false g38)) (Op1.move (v := .int .i64 _) rfl ?_)
          refine RunL.take (t := 28) rfl (congrArg Value.bool (decide_eq_false g38)) (Op1.indexArr ty27 ty25 rfl rfl (by omega) (by omega) ?_)
          refine RunL.take (t := 28) rfl (congrArg Value.bool (decide_eq_false g38)) (Op1.fieldAddr fld25_1 rfl ?_)
          refine RunL.take (t := 28) rfl (congrArg Value.bool (decide_eq_false g38)) (Op1.load1 (v := .int .i32 _) ty21 rfl rfl (hst.cellL (.head _) rfl) ?_)
          refine RunL.take (t := 28) rfl (congrArg Value.bool (decide_eq_false g38)) (Op1.call1 (v1 := .int .i32 _) ent47 rfl rfl ((law28_small _ _).mono fun v w hp => ?_))
          obtain ⟨rfl, hp⟩ := hp
          replace hst := hst.keepc hp
          clear hp
          refine RunL.take (t := 28) rfl (congrArg Value.bool (decide_eq_false g38)) (Op1.notD rfl ?_)
          refine RunL.cons (Op1.pickF (u := .bool _) (congrArg Value.bool (decide_eq_false g38)) rfl ?_)
          refine RunL.nil ?_
          refine run_cond_dec rfl (fun g39 => ?_) (fun g39 => ?_)
          · skip
            refine run_seq ?_
            refine run_region ?_
            refine RunL.cons (Op1.call0  ent40 rfl  ((law28_awake _).mono fun v w hp => ?_))
            obtain ⟨rfl, hp⟩ := hp
            replace hst := hst.keepc hp
            clear hp
            refine RunL.cons (Op1.assign (v := .bool _) rfl ?_)
            refine RunL.nil ?_
            refine run_ret1 Try.func16 rfl (RV.tmp (v := .bool _) rfl) ?_
            exact ⟨rfl, hst.pure⟩
          · skip
            refine run_skip ?_
            exact cut7 _ w hst (by omega) ⟨rfl, rfl, rfl, rfl, rfl, rfl, trivial⟩
    · skip
      refine run_seq ?_
      refine run_region ?_
      refine RunL.cons (Op1.move (v := .int .i64 _) rfl ?_)
      refine RunL.cons (Op1.indexArr ty27 ty25 rfl rfl (by omega) (by omega) ?_)
      refine RunL.cons (Op1.fieldAddr fld25_0 rfl ?_)
      refine RunL.cons (Op1.load1 (v := .int .i32 _) ty21 rfl rfl (hst.cellL (.head _) rfl) ?_)
      refine RunL.cons (Op1.call1 (v1 := .int .i32 _) ent47 rfl rfl ((law28_small _ _).mono fun v w hp => ?_))
      obtain ⟨rfl, hp⟩ := hp
      replace hst := hst.keepc hp
      clear hp
      refine RunL.cons (Op1.notD rfl ?_)
      refine RunL.cons (Op1.move (v := .bool _) rfl ?_)
      refine RunL.splitD (d := 28) rfl (fun g40 => ?_) (fun g40 => ?_)
      · skip
        refine RunL.omit (t := 28) rfl (congrArg Value.bool (decide_eq_true g40)) rfl ?_
        refine RunL.omit (t := 28) rfl (congrArg Value.bool (decide_eq_true g40)) rfl ?_
        refine RunL.omit (t := 28) rfl (congrArg Value.bool (decide_eq_true g40)) rfl ?_
        refine RunL.omit (t := 28) rfl (congrArg Value.bool (decide_eq_true g40)) rfl ?_
        refine RunL.omit (t := 28) rfl (congrArg Value.bool (decide_eq_true g40)) rfl ?_
        refine RunL.omit (t := 28) rfl (congrArg Value.bool (decide_eq_true g40)) rfl ?_
        refine RunL.cons (Op1.pickT (u := .bool _) (congrArg Value.bool (decide_eq_true g40)) rfl ?_)
        refine RunL.nil ?_
        refine run_cond_true (congrArg Value.bool (rfl : true = _)) ?_
        refine run_seq ?_
        refine run_region ?_
        refine RunL.cons (Op1.call0  ent40 rfl  ((law28_awake _).mono fun v w hp => ?_))
        obtain ⟨rfl, hp⟩ := hp
        replace hst := hst.keepc hp
        clear hp
        refine RunL.cons (Op1.assign (v := .bool _) rfl ?_)
        refine RunL.nil ?_
        refine run_ret1 Try.func16 rfl (RV.tmp (v := .bool _) rfl) ?_
        exact ⟨rfl, hst.pure⟩
      · skip
        refine RunL.take (t := 28) rfl (congrArg Value.bool (decide_eq_false g40)) (Op1.move (v := .int .i64 _) rfl ?_)
        refine RunL.take (t := 28) rfl (congrArg Value.bool (decide_eq_false g40)) (Op1.indexArr ty27 ty25 rfl rfl (by omega) (by omega) ?_)
        refine RunL.take (t := 28) rfl (congrArg Value.bool (decide_eq_false g40)) (Op1.fieldAddr fld25_1 rfl ?_)
        refine RunL.take (t := 28) rfl (congrArg Value.bool (decide_eq_false g40)) (Op1.load1 (v := .int .i32 _) ty21 rfl rfl (hst.cellL (.head _) rfl) ?_)
        refine RunL.take (t := 28) rfl (congrArg Value.bool (decide_eq_false g40)) (Op1.call1 (v1 := .int .i32 _) ent47 rfl rfl ((law28_small _ _).mono fun v w hp => ?_))
        obtain ⟨rfl, hp⟩ := hp
        replace hst := hst.keepc hp
        clear hp
        refine RunL.take (t := 28) rfl (congrArg Value.bool (decide_eq_false g40)) (Op1.notD rfl ?_)
        refine RunL.cons (Op1.pickF (u := .bool _) (congrArg Value.bool (decide_eq_false g40)) rfl ?_)
        refine RunL.nil ?_
        refine run_cond_dec rfl (fun g41 => ?_) (fun g41 => ?_)
        · skip
          refine run_seq ?_
          refine run_region ?_
          refine RunL.cons (Op1.call0  ent40 rfl  ((law28_awake _).mono fun v w hp => ?_))
          obtain ⟨rfl, hp⟩ := hp
          replace hst := hst.keepc hp
          clear hp
          refine RunL.cons (Op1.assign (v := .bool _) rfl ?_)
          refine RunL.nil ?_
          refine run_ret1 Try.func16 rfl (RV.tmp (v := .bool _) rfl) ?_
          exact ⟨rfl, hst.pure⟩
        · skip
          refine run_skip ?_
          exact cut4 _ w hst (by omega) ⟨rfl, rfl, rfl, rfl, rfl, rfl, trivial⟩
  · skip
    refine run_seq ?_
    refine run_region ?_
    refine RunL.cons (Op1.move (v := .int .i64 _) rfl ?_)
    refine RunL.cons (Op1.indexArr ty27 ty25 rfl rfl (by omega) (by omega) ?_)
    refine RunL.cons (Op1.fieldAddr fld25_0 rfl ?_)
    refine RunL.cons (Op1.load1 (v := .int .i32 _) ty21 rfl rfl (hst.cellL (.head _) rfl) ?_)
    refine RunL.cons (Op1.call1 (v1 := .int .i32 _) ent47 rfl rfl ((law28_small _ _).mono fun v w hp => ?_))
    obtain ⟨rfl, hp⟩ := hp
    replace hst := hst.keepc hp
    clear hp
    refine RunL.cons (Op1.notD rfl ?_)
    refine RunL.cons (Op1.move (v := .bool _) rfl ?_)
    refine RunL.splitD (d := 28) rfl (fun g42 => ?_) (fun g42 => ?_)
    · skip
      refine RunL.omit (t := 28) rfl (congrArg Value.bool (decide_eq_true g42)) rfl ?_
      refine RunL.omit (t := 28) rfl (congrArg Value.bool (decide_eq_true g42)) rfl ?_
      refine RunL.omit (t := 28) rfl (congrArg Value.bool (decide_eq_true g42)) rfl ?_
      refine RunL.omit (t := 28) rfl (congrArg Value.bool (decide_eq_true g42)) rfl ?_
      refine RunL.omit (t := 28) rfl (congrArg Value.bool (decide_eq_true g42)) rfl ?_
      refine RunL.omit (t := 28) rfl (congrArg Value.bool (decide_eq_true g42)) rfl ?_
      refine RunL.cons (Op1.pickT (u := .bool _) (congrArg Value.bool (decide_eq_true g42)) rfl ?_)
      refine RunL.nil ?_
      refine run_cond_true (congrArg Value.bool (rfl : true = _)) ?_
      refine run_seq ?_
      refine run_region ?_
      refine RunL.cons (Op1.call0  ent40 rfl  ((law28_awake _).mono fun v w hp => ?_))
      obtain ⟨rfl, hp⟩ := hp
      replace hst := hst.keepc hp
      clear hp
      refine RunL.cons (Op1.assign (v := .bool _) rfl ?_)
      refine RunL.nil ?_
      refine run_ret1 Try.func16 rfl (RV.tmp (v := .bool _) rfl) ?_
      exact ⟨rfl, hst.pure⟩
    · skip
      refine RunL.take (t := 28) rfl (congrArg Value.bool (decide_eq_false g42)) (Op1.move (v := .int .i64 _) rfl ?_)
      refine RunL.take (t := 28) rfl (congrArg Value.bool (decide_eq_false g42)) (Op1.indexArr ty27 ty25 rfl rfl (by omega) (by omega) ?_)
      refine RunL.take (t := 28) rfl (congrArg Value.bool (decide_eq_false g42)) (Op1.fieldAddr fld25_1 rfl ?_)
      refine RunL.take (t := 28) rfl (congrArg Value.bool (decide_eq_false g42)) (Op1.load1 (v := .int .i32 _) ty21 rfl rfl (hst.cellL (.head _) rfl) ?_)
      refine RunL.take (t := 28) rfl (congrArg Value.bool (decide_eq_false g42)) (Op1.call1 (v1 := .int .i32 _) ent47 rfl rfl ((law28_small _ _).mono fun v w hp => ?_))
      obtain ⟨rfl, hp⟩ := hp
      replace hst := hst.keepc hp
      clear hp
      refine RunL.take (t := 28) rfl (congrArg Value.bool (decide_eq_false g42)) (Op1.notD rfl ?_)
      refine RunL.cons (Op1.pickF (u := .bool _) (congrArg Value.bool (decide_eq_false g42)) rfl ?_)
      refine RunL.nil ?_
      refine run_cond_dec rfl (fun g43 => ?_) (fun g43 => ?_)
      · skip
        refine run_seq ?_
        refine run_region ?_
        refine RunL.cons (Op1.call0  ent40 rfl  ((law28_awake _).mono fun v w hp => ?_))
        obtain ⟨rfl, hp⟩ := hp
        replace hst := hst.keepc hp
        clear hp
        refine RunL.cons (Op1.assign (v := .bool _) rfl ?_)
        refine RunL.nil ?_
        refine run_ret1 Try.func16 rfl (RV.tmp (v := .bool _) rfl) ?_
        exact ⟨rfl, hst.pure⟩
      · skip
        refine run_skip ?_
        exact cut1 _ w hst (by omega) ⟨rfl, rfl, rfl, rfl, rfl, rfl, trivial⟩

end Go.SK
