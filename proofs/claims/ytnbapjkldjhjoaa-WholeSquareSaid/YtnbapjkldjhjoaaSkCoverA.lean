/-
  Walks of functions, and of the laws over them.
-/
import Derived.Test.YtnbapjkldjhjoaaSkFacts1
import Derived.Test.YtnbapjkldjhjoaaSkEdgeA
import Derived.Test.YtnbapjkldjhjoaaSkEdgeE
import Derived.Test.YtnbapjkldjhjoaaSkK
set_option linter.unusedVariables false
set_option linter.unusedSimpArgs false
namespace Go.SK
open Go Go.Proofs
open Go.RowKit
theorem cov_picture (a b : Int) (w : World) : Ret Try.prog 66 #[.int .i64 a, .int .i64 b] w (fun v w' => v = .bool (decide (1 ≤ a ∧ a ≤ 1024 ∧ 1 ≤ b ∧ b ≤ 1024)) ∧ St w NoM [] [] w') := by
  refine Ret.enter (args := [.int .i64 a, .int .i64 b]) Try.func66 rfl rfl rfl ?_
  have hst := St.init w
  refine run_seq ?_
  refine run_region ?_
  refine RunL.cons (Op1.assign (v := .bool _) rfl ?_)
  refine RunL.nil ?_
  refine run_seq ?_
  refine run_region ?_
  refine RunL.cons (Op1.move (v := .int .i64 _) rfl ?_)
  refine RunL.cons (Op1.geq rfl rfl ?_)
  refine RunL.cons (Op1.move (v := .bool _) rfl ?_)
  refine RunL.splitD (d := 7) rfl (fun g1 => ?_) (fun g1 => ?_)
  · skip
    refine RunL.take (t := 7) rfl (congrArg Value.bool (decide_eq_true g1)) (Op1.move (v := .int .i64 _) rfl ?_)
    refine RunL.take (t := 7) rfl (congrArg Value.bool (decide_eq_true g1)) (Op1.leq rfl rfl ?_)
    refine RunL.cons (Op1.pickT (u := .bool _) (congrArg Value.bool (decide_eq_true g1)) rfl ?_)
    refine RunL.cons (Op1.move (v := .bool _) rfl ?_)
    refine RunL.splitD (d := 11) rfl (fun g2 => ?_) (fun g2 => ?_)
    · skip
      refine RunL.take (t := 11) rfl (congrArg Value.bool (decide_eq_true g2)) (Op1.move (v := .int .i64 _) rfl ?_)
      refine RunL.take (t := 11) rfl (congrArg Value.bool (decide_eq_true g2)) (Op1.geq rfl rfl ?_)
      refine RunL.cons (Op1.pickT (u := .bool _) (congrArg Value.bool (decide_eq_true g2)) rfl ?_)
      refine RunL.cons (Op1.move (v := .bool _) rfl ?_)
      refine RunL.splitD (d := 15) rfl (fun g3 => ?_) (fun g3 => ?_)
      · skip
        refine RunL.take (t := 15) rfl (congrArg Value.bool (decide_eq_true g3)) (Op1.move (v := .int .i64 _) rfl ?_)
        refine RunL.take (t := 15) rfl (congrArg Value.bool (decide_eq_true g3)) (Op1.leq rfl rfl ?_)
        refine RunL.cons (Op1.pickT (u := .bool _) (congrArg Value.bool (decide_eq_true g3)) rfl ?_)
        refine RunL.cons (Op1.assign (v := .bool _) rfl ?_)
        refine RunL.nil ?_
        refine run_ret1 Try.func66 rfl (RV.tmp (v := .bool _) rfl) ?_
        refine ⟨congrArg Value.bool ?_, hst.pure⟩
        first | (rw [decide_eq_decide]; omega) | exact (decide_eq_false (by omega)).symm | exact (decide_eq_true (by omega)).symm
      · skip
        refine RunL.omit (t := 15) rfl (congrArg Value.bool (decide_eq_false g3)) rfl ?_
        refine RunL.omit (t := 15) rfl (congrArg Value.bool (decide_eq_false g3)) rfl ?_
        refine RunL.cons (Op1.pickF (u := .bool _) (congrArg Value.bool (decide_eq_false g3)) rfl ?_)
        refine RunL.cons (Op1.assign (v := .bool _) rfl ?_)
        refine RunL.nil ?_
        refine run_ret1 Try.func66 rfl (RV.tmp (v := .bool _) rfl) ?_
        refine ⟨congrArg Value.bool ?_, hst.pure⟩
        first | (rw [decide_eq_decide]; omega) | exact (decide_eq_false (by omega)).symm | exact (decide_eq_true (by omega)).symm
    · skip
      refine RunL.omit (t := 11) rfl (congrArg Value.bool (decide_eq_false g2)) rfl ?_
      refine RunL.omit (t := 11) rfl (congrArg Value.bool (decide_eq_false g2)) rfl ?_
      refine RunL.cons (Op1.pickF (u := .bool _) (congrArg Value.bool (decide_eq_false g2)) rfl ?_)
      refine RunL.cons (Op1.move (v := .bool _) rfl ?_)
      refine RunL.omit (t := 15) rfl (congrArg Value.bool (rfl : false = _)) rfl ?_
      refine RunL.omit (t := 15) rfl (congrArg Value.bool (rfl : false = _)) rfl ?_
      refine RunL.cons (Op1.pickF (u := .bool _) (congrArg Value.bool (rfl : false = _)) rfl ?_)
      refine RunL.cons (Op1.assign (v := .bool _) rfl ?_)
      refine RunL.nil ?_
      refine run_ret1 Try.func66 rfl (RV.tmp (v := .bool _) rfl) ?_
      refine ⟨congrArg Value.bool ?_, hst.pure⟩
      first | (rw [decide_eq_decide]; omega) | exact (decide_eq_false (by omega)).symm | exact (decide_eq_true (by omega)).symm
  · skip
    refine RunL.omit (t := 7) rfl (congrArg Value.bool (decide_eq_false g1)) rfl ?_
    refine RunL.omit (t := 7) rfl (congrArg Value.bool (decide_eq_false g1)) rfl ?_
    refine RunL.cons (Op1.pickF (u := .bool _) (congrArg Value.bool (decide_eq_false g1)) rfl ?_)
    refine RunL.cons (Op1.move (v := .bool _) rfl ?_)
    refine RunL.omit (t := 11) rfl (congrArg Value.bool (rfl : false = _)) rfl ?_
    refine RunL.omit (t := 11) rfl (congrArg Value.bool (rfl : false = _)) rfl ?_
    refine RunL.cons (Op1.pickF (u := .bool _) (congrArg Value.bool (rfl : false = _)) rfl ?_)
    refine RunL.cons (Op1.move (v := .bool _) rfl ?_)
    refine RunL.omit (t := 15) rfl (congrArg Value.bool (rfl : false = _)) rfl ?_
    refine RunL.omit (t := 15) rfl (congrArg Value.bool (rfl : false = _)) rfl ?_
    refine RunL.cons (Op1.pickF (u := .bool _) (congrArg Value.bool (rfl : false = _)) rfl ?_)
    refine RunL.cons (Op1.assign (v := .bool _) rfl ?_)
    refine RunL.nil ?_
    refine run_ret1 Try.func66 rfl (RV.tmp (v := .bool _) rfl) ?_
    refine ⟨congrArg Value.bool ?_, hst.pure⟩
    first | (rw [decide_eq_decide]; omega) | exact (decide_eq_false (by omega)).symm | exact (decide_eq_true (by omega)).symm

theorem ref_picture (a b : Int) (w : World) : Ret Try.prog 63 #[.int .i64 a, .int .i64 b] w (fun v w' => v = .bool (decide (1 ≤ a ∧ a ≤ 1024 ∧ 1 ≤ b ∧ b ≤ 1024)) ∧ St w NoM [] [] w') := by
  refine Ret.enter (args := [.int .i64 a, .int .i64 b]) Try.func63 rfl rfl rfl ?_
  have hst := St.init w
  refine run_seq ?_
  refine run_region ?_
  refine RunL.cons (Op1.assign (v := .bool _) rfl ?_)
  refine RunL.nil ?_
  refine run_seq ?_
  refine run_region ?_
  refine RunL.cons (Op1.move (v := .int .i64 _) rfl ?_)
  refine RunL.cons (Op1.geq rfl rfl ?_)
  refine RunL.cons (Op1.move (v := .bool _) rfl ?_)
  refine RunL.splitD (d := 7) rfl (fun g1 => ?_) (fun g1 => ?_)
  · skip
    refine RunL.take (t := 7) rfl (congrArg Value.bool (decide_eq_true g1)) (Op1.move (v := .int .i64 _) rfl ?_)
    refine RunL.take (t := 7) rfl (congrArg Value.bool (decide_eq_true g1)) (Op1.leq rfl rfl ?_)
    refine RunL.cons (Op1.pickT (u := .bool _) (congrArg Value.bool (decide_eq_true g1)) rfl ?_)
    refine RunL.cons (Op1.move (v := .bool _) rfl ?_)
    refine RunL.splitD (d := 11) rfl (fun g2 => ?_) (fun g2 => ?_)
    · skip
      refine RunL.take (t := 11) rfl (congrArg Value.bool (decide_eq_true g2)) (Op1.move (v := .int .i64 _) rfl ?_)
      refine RunL.take (t := 11) rfl (congrArg Value.bool (decide_eq_true g2)) (Op1.geq rfl rfl ?_)
      refine RunL.cons (Op1.pickT (u := .bool _) (congrArg Value.bool (decide_eq_true g2)) rfl ?_)
      refine RunL.cons (Op1.move (v := .bool _) rfl ?_)
      refine RunL.splitD (d := 15) rfl (fun g3 => ?_) (fun g3 => ?_)
      · skip
        refine RunL.take (t := 15) rfl (congrArg Value.bool (decide_eq_true g3)) (Op1.move (v := .int .i64 _) rfl ?_)
        refine RunL.take (t := 15) rfl (congrArg Value.bool (decide_eq_true g3)) (Op1.leq rfl rfl ?_)
        refine RunL.cons (Op1.pickT (u := .bool _) (congrArg Value.bool (decide_eq_true g3)) rfl ?_)
        refine RunL.cons (Op1.assign (v := .bool _) rfl ?_)
        refine RunL.nil ?_
        refine run_ret1 Try.func63 rfl (RV.tmp (v := .bool _) rfl) ?_
        refine ⟨congrArg Value.bool ?_, hst.pure⟩
        first | (rw [decide_eq_decide]; omega) | exact (decide_eq_false (by omega)).symm | exact (decide_eq_true (by omega)).symm
      · skip
        refine RunL.omit (t := 15) rfl (congrArg Value.bool (decide_eq_false g3)) rfl ?_
        refine RunL.omit (t := 15) rfl (congrArg Value.bool (decide_eq_false g3)) rfl ?_
        refine RunL.cons (Op1.pickF (u := .bool _) (congrArg Value.bool (decide_eq_false g3)) rfl ?_)
        refine RunL.cons (Op1.assign (v := .bool _) rfl ?_)
        refine RunL.nil ?_
        refine run_ret1 Try.func63 rfl (RV.tmp (v := .bool _) rfl) ?_
        refine ⟨congrArg Value.bool ?_, hst.pure⟩
        first | (rw [decide_eq_decide]; omega) | exact (decide_eq_false (by omega)).symm | exact (decide_eq_true (by omega)).symm
    · skip
      refine RunL.omit (t := 11) rfl (congrArg Value.bool (decide_eq_false g2)) rfl ?_
      refine RunL.omit (t := 11) rfl (congrArg Value.bool (decide_eq_false g2)) rfl ?_
      refine RunL.cons (Op1.pickF (u := .bool _) (congrArg Value.bool (decide_eq_false g2)) rfl ?_)
      refine RunL.cons (Op1.move (v := .bool _) rfl ?_)
      refine RunL.omit (t := 15) rfl (congrArg Value.bool (rfl : false = _)) rfl ?_
      refine RunL.omit (t := 15) rfl (congrArg Value.bool (rfl : false = _)) rfl ?_
      refine RunL.cons (Op1.pickF (u := .bool _) (congrArg Value.bool (rfl : false = _)) rfl ?_)
      refine RunL.cons (Op1.assign (v := .bool _) rfl ?_)
      refine RunL.nil ?_
      refine run_ret1 Try.func63 rfl (RV.tmp (v := .bool _) rfl) ?_
      refine ⟨congrArg Value.bool ?_, hst.pure⟩
      first | (rw [decide_eq_decide]; omega) | exact (decide_eq_false (by omega)).symm | exact (decide_eq_true (by omega)).symm
  · skip
    refine RunL.omit (t := 7) rfl (congrArg Value.bool (decide_eq_false g1)) rfl ?_
    refine RunL.omit (t := 7) rfl (congrArg Value.bool (decide_eq_false g1)) rfl ?_
    refine RunL.cons (Op1.pickF (u := .bool _) (congrArg Value.bool (decide_eq_false g1)) rfl ?_)
    refine RunL.cons (Op1.move (v := .bool _) rfl ?_)
    refine RunL.omit (t := 11) rfl (congrArg Value.bool (rfl : false = _)) rfl ?_
    refine RunL.omit (t := 11) rfl (congrArg Value.bool (rfl : false = _)) rfl ?_
    refine RunL.cons (Op1.pickF (u := .bool _) (congrArg Value.bool (rfl : false = _)) rfl ?_)
    refine RunL.cons (Op1.move (v := .bool _) rfl ?_)
    refine RunL.omit (t := 15) rfl (congrArg Value.bool (rfl : false = _)) rfl ?_
    refine RunL.omit (t := 15) rfl (congrArg Value.bool (rfl : false = _)) rfl ?_
    refine RunL.cons (Op1.pickF (u := .bool _) (congrArg Value.bool (rfl : false = _)) rfl ?_)
    refine RunL.cons (Op1.assign (v := .bool _) rfl ?_)
    refine RunL.nil ?_
    refine run_ret1 Try.func63 rfl (RV.tmp (v := .bool _) rfl) ?_
    refine ⟨congrArg Value.bool ?_, hst.pure⟩
    first | (rw [decide_eq_decide]; omega) | exact (decide_eq_false (by omega)).symm | exact (decide_eq_true (by omega)).symm

def lo3 (a b c : Int) : Int := min (min a b) c
def hi3 (a b c : Int) : Int := max (max a b) c
/-- the first and the last pixel of a side -/
def fromZ (lo : Int) : Int := max ((lo - 8 + 16 - 1) / 16) 0
def toZ (hi size : Int) : Int := min ((hi - 8) / 16 + 1) size
theorem cov_box1 (x y z : Int) (w : World) : Ret Try.prog 68 #[.agg #[.int .i32 x, .int .i32 y, .int .i32 z]] w (fun v w' => v = .int .i32 (clampZ x) ∧ St w NoM [] [] w') := by
  refine Ret.enter (args := [.agg #[.int .i32 x, .int .i32 y, .int .i32 z]]) Try.func68 rfl rfl rfl ?_
  have hst := St.init w
  refine run_seq ?_
  refine run_region ?_
  refine RunL.cons (Op1.box (v := .agg #[.int .i32 _, .int .i32 _, .int .i32 _]) hst rfl rfl fun w b1 hst => ?_)
  refine RunL.cons (Op1.assign (v := .int .i32 _) rfl ?_)
  refine RunL.nil ?_
  refine run_seq ?_
  refine run_region ?_
  refine RunL.cons (Op1.fieldAddr fld25_0 rfl ?_)
  refine RunL.cons (Op1.load1 (v := .int .i32 _) ty21 rfl rfl (hst.cellL (.head _) rfl) ?_)
  refine RunL.cons (Op1.call1 (v1 := .int .i32 _) ent25 rfl rfl ((edge_clamp _ _).mono fun v w hp => ?_))
  obtain ⟨rfl, hp⟩ := hp
  replace hst := hst.keepc hp
  clear hp
  refine RunL.cons (Op1.assign (v := .int .i32 _) rfl ?_)
  refine RunL.nil ?_
  refine run_ret1 Try.func68 rfl (RV.tmp (v := .int .i32 _) rfl) ?_
  exact ⟨rfl, hst.pure⟩

theorem cov_box2 (x y z : Int) (w : World) : Ret Try.prog 69 #[.agg #[.int .i32 x, .int .i32 y, .int .i32 z]] w (fun v w' => v = .int .i32 (clampZ y) ∧ St w NoM [] [] w') := by
  refine Ret.enter (args := [.agg #[.int .i32 x, .int .i32 y, .int .i32 z]]) Try.func69 rfl rfl rfl ?_
  have hst := St.init w
  refine run_seq ?_
  refine run_region ?_
  refine RunL.cons (Op1.box (v := .agg #[.int .i32 _, .int .i32 _, .int .i32 _]) hst rfl rfl fun w b1 hst => ?_)
  refine RunL.cons (Op1.assign (v := .int .i32 _) rfl ?_)
  refine RunL.nil ?_
  refine run_seq ?_
  refine run_region ?_
  refine RunL.cons (Op1.fieldAddr fld25_1 rfl ?_)
  refine RunL.cons (Op1.load1 (v := .int .i32 _) ty21 rfl rfl (hst.cellL (.head _) rfl) ?_)
  refine RunL.cons (Op1.call1 (v1 := .int .i32 _) ent25 rfl rfl ((edge_clamp _ _).mono fun v w hp => ?_))
  obtain ⟨rfl, hp⟩ := hp
  replace hst := hst.keepc hp
  clear hp
  refine RunL.cons (Op1.assign (v := .int .i32 _) rfl ?_)
  refine RunL.nil ?_
  refine run_ret1 Try.func69 rfl (RV.tmp (v := .int .i32 _) rfl) ?_
  exact ⟨rfl, hst.pure⟩

theorem cov_side (ax ay az bx by_ bz cx cy cz : Int) (size : Int) (fn : Fn) (h : Int → Int → Int → Int) (hb : ∀ x y z, -32768 ≤ h x y z ∧ h x y z ≤ 32767) (hsz : 1 ≤ size ∧ size ≤ 1024) (hof : ∀ (x y z : Int) (w : World), CallV Try.prog (.func fn #[] #[]) [.agg #[.int .i32 x, .int .i32 y, .int .i32 z]] w fun v w' => v = .int .i32 (h x y z) ∧ St w NoM [] [] w') (w : World) : Ret Try.prog 67 #[.agg #[.int .i32 ax, .int .i32 ay, .int .i32 az, .int .i32 bx, .int .i32 by_, .int .i32 bz, .int .i32 cx, .int .i32 cy, .int .i32 cz], .int .i64 size, .func fn #[] #[]] w (fun v w' => v = .agg #[.int .i64 (fromZ (lo3 (h ax ay az) (h bx by_ bz) (h cx cy cz))), .int .i64 (toZ (hi3 (h ax ay az) (h bx by_ bz) (h cx cy cz)) size)] ∧ St w NoM [] [] w') := by
  refine Ret.enter (args := [.agg #[.int .i32 ax, .int .i32 ay, .int .i32 az, .int .i32 bx, .int .i32 by_, .int .i32 bz, .int .i32 cx, .int .i32 cy, .int .i32 cz], .int .i64 size, .func fn #[] #[]]) Try.func67 rfl rfl rfl ?_
  have hst := St.init w
  have ha := hb ax ay az
  have hbb := hb bx by_ bz
  have hc := hb cx cy cz
  refine run_seq ?_
  refine run_region ?_
  refine RunL.cons (Op1.box (v := .agg #[.int .i32 _, .int .i32 _, .int .i32 _, .int .i32 _, .int .i32 _, .int .i32 _, .int .i32 _, .int .i32 _, .int .i32 _]) hst rfl rfl fun w b3 hst => ?_)
  refine RunL.cons (Op1.alloc hst ty47 fun w b6 hst => ?_)
  refine RunL.nil ?_
  refine run_seq ?_
  refine RunD.start [] hst (bs := [0, 0, 2, 7, 15, 0, 0, 64, 239, 495, 511, 2047]) (ds := [some 13, some 14, some 15, some 16, some 17, some 18, some 19, some 20, some 21, some 22, some 7, some 8]) ⟨by kernel_rfl, by kernel_rfl, by kernel_rfl⟩ (fun tab1 => ?_)
  refine RunD.op (det _) tab1 1 (fun f' L' w' hc => Op1.move (v := .func _ _ _) (hc.old (v := .func _ _ _) rfl rfl rfl) ⟨[], ⟨rfl, rfl⟩, hc.st⟩) ?_
  refine RunD.op (det _) tab1 2 (fun f' L' w' hc => Op1.indexArr ty27 ty25 (hc.old (v := .pointer (some ⟨_, _, none⟩)) rfl rfl rfl) rfl (by decide) (by decide) ⟨[], ⟨rfl, rfl⟩, hc.st⟩) ?_
  refine RunD.op (det _) tab1 3 (fun f' L' w' hc => Op1.loadA (vs := [.int .i32 _, .int .i32 _, .int .i32 _]) ty25 rfl (hc.det (j := 1) rfl rfl rfl rfl) rfl (cells_of_obj (n := 3) (hc.st.objL (List.mem_append_right _ (.tail _ (.head _)))) _ rfl) ⟨[], ⟨rfl, rfl⟩, hc.st⟩) ?_
  refine RunD.op (det _) tab1 4 (fun f' L' w' hc => Op1.callV1 (v1 := .agg #[.int .i32 _, .int .i32 _, .int .i32 _]) (hc.det (j := 0) rfl rfl rfl rfl) (hc.det (j := 2) rfl rfl rfl rfl) ((hof _ _ _ _).mono fun v w hp => ⟨[], ⟨hp.1, rfl⟩, hc.st.keepc hp.2⟩)) ?_
  first | refine RunD.op (det _) tab1 5 (fun f' L' w' hc => Op1.convN ty21 ty3 (hc.det (j := 3) rfl rfl rfl rfl) (wrap_i64 (by omega) (by omega)) ⟨[], ⟨rfl, rfl⟩, hc.st⟩) ?_ | refine RunD.op (det _) tab1 5 (fun f' L' w' hc => Op1.conv ty21 ty3 (hc.det (j := 3) rfl rfl rfl rfl) ⟨[], ⟨rfl, rfl⟩, hc.st⟩) ?_
  refine RunD.op (det _) tab1 6 (fun f' L' w' hc => Op1.move (v := .func _ _ _) (hc.old (v := .func _ _ _) rfl rfl rfl) ⟨[], ⟨rfl, rfl⟩, hc.st⟩) ?_
  refine RunD.op (det _) tab1 7 (fun f' L' w' hc => Op1.indexArr ty27 ty25 (hc.old (v := .pointer (some ⟨_, _, none⟩)) rfl rfl rfl) rfl (by decide) (by decide) ⟨[], ⟨rfl, rfl⟩, hc.st⟩) ?_
  refine RunD.op (det _) tab1 8 (fun f' L' w' hc => Op1.loadA (vs := [.int .i32 _, .int .i32 _, .int .i32 _]) ty25 rfl (hc.det (j := 6) rfl rfl rfl rfl) rfl (cells_of_obj (n := 3) (hc.st.objL (List.mem_append_right _ (.tail _ (.head _)))) _ rfl) ⟨[], ⟨rfl, rfl⟩, hc.st⟩) ?_
  refine RunD.op (det _) tab1 9 (fun f' L' w' hc => Op1.callV1 (v1 := .agg #[.int .i32 _, .int .i32 _, .int .i32 _]) (hc.det (j := 5) rfl rfl rfl rfl) (hc.det (j := 7) rfl rfl rfl rfl) ((hof _ _ _ _).mono fun v w hp => ⟨[], ⟨hp.1, rfl⟩, hc.st.keepc hp.2⟩)) ?_
  first | refine RunD.op (det _) tab1 10 (fun f' L' w' hc => Op1.convN ty21 ty3 (hc.det (j := 8) rfl rfl rfl rfl) (wrap_i64 (by omega) (by omega)) ⟨[], ⟨rfl, rfl⟩, hc.st⟩) ?_ | refine RunD.op (det _) tab1 10 (fun f' L' w' hc => Op1.conv ty21 ty3 (hc.det (j := 8) rfl rfl rfl rfl) ⟨[], ⟨rfl, rfl⟩, hc.st⟩) ?_
  refine RunD.op (det _) tab1 11 (fun f' L' w' hc => Op1.assign (v := .int .i64 _) (hc.det (j := 4) rfl rfl rfl rfl) ⟨[], ⟨rfl, rfl⟩, hc.st⟩) ?_
  refine RunD.fin followsMixed tab1 hst rfl (fun f2 w R5 hs3 hd4 hr6 hst => ?_)
  obtain ⟨h13_, r0⟩ := hd4 0 13 rfl rfl
  obtain ⟨h14_, r1⟩ := hd4 1 14 rfl rfl
  obtain ⟨h15_, r2⟩ := hd4 2 15 rfl rfl
  obtain ⟨h16_, r3⟩ := hd4 3 16 rfl rfl
  obtain ⟨h17_, r4⟩ := hd4 4 17 rfl rfl
  obtain ⟨h18_, r5⟩ := hd4 5 18 rfl rfl
  obtain ⟨h19_, r6⟩ := hd4 6 19 rfl rfl
  obtain ⟨h20_, r7⟩ := hd4 7 20 rfl rfl
  obtain ⟨h21_, r8⟩ := hd4 8 21 rfl rfl
  obtain ⟨h22_, r9⟩ := hd4 9 22 rfl rfl
  obtain ⟨h7_, r10⟩ := hd4 10 7 rfl rfl
  simp only [show List.range 11 = [0, 1, 2, 3, 4, 5, 6, 7, 8, 9, 10] from rfl, List.flatMap_cons, List.flatMap_nil, List.map_cons, List.map_nil, r0, r1, r2, r3, r4, r5, r6, r7, r8, r9, r10, List.nil_append, List.append_nil, List.cons_append] at hst
  refine RunL.slots (sl := [(1, .int .i64 _), (2, .func _ _ _), (3, .pointer (some ⟨_, _, none⟩)), (6, .pointer (some ⟨_, _, none⟩)), (7, .int .i64 _), (22, .int .i64 _)]) ⟨(hs3 1 rfl).trans rfl, (hs3 2 rfl).trans rfl, (hs3 3 rfl).trans rfl, (hs3 6 rfl).trans rfl, h7_, h22_, trivial⟩ ?_
  clear hs3 hd4 hr6 tab1
  refine RunL.cons (Op1.assign (v := .int .i64 _) rfl ?_)
  refine RunL.nil ?_
  refine run_seq ?_
  refine run_seq ?_
  refine run_region ?_
  refine RunL.cons (Op1.sliceArrFrom ty27 ty25 rfl rfl (by decide) (by decide) ?_)
  refine RunL.cons (Op1.lenSl (rest := []) ty107 rfl ?_)
  refine RunL.cons (Op1.move (v := .int .i64 _) rfl ?_)
  refine RunL.nil ?_
  refine run_block ?_
  refine run_loop ?_
  refine run_seq ?_
  refine run_region ?_
  refine RunL.cons (Op1.lss rfl rfl ?_)
  refine RunL.nil ?_
  refine run_seq ?_
  refine run_cond_true (congrArg Value.bool (decide_eq_true (by decide))) ?_
  refine run_skip ?_
  refine run_seq ?_
  refine run_block ?_
  refine run_seq ?_
  refine run_region ?_
  refine RunL.cons (Op1.indexSl ty107 ty25 rfl rfl (by omega) (by omega) ?_)
  refine RunL.cons (Op1.loadA (vs := [.int .i32 _, .int .i32 _, .int .i32 _]) ty25 rfl rfl rfl (cells_of_obj (n := 3) (hst.objL (.tail _ (.head _))) _ rfl) ?_)
  refine RunL.cons (Op1.alloc hst ty25 fun w b10 hst => ?_)
  refine RunL.cons (Op1.store (v := .agg #[.int .i32 _, .int .i32 _, .int .i32 _]) hst ty25 rfl rfl rfl rfl rfl (.here) (by repeat (first | exact Put.nil | apply Put.put | apply Put.skip)) fun w hst => ?_)
  refine RunL.nil ?_
  refine RunD.start [] hst (bs := [0, 0, 0, 6, 14, 31, 0, 0, 0, 398, 910, 1998, 959, 8191]) (ds := [some 29, some 30, some 31, some 32, some 33, some 34, some 35, some 36, some 37, some 38, some 39, some 40, some 7, some 8]) ⟨by kernel_rfl, by kernel_rfl, by kernel_rfl⟩ (fun tab7 => ?_)
  refine RunD.op (det _) tab7 1 (fun f' L' w' hc => Op1.move (v := .int .i64 _) (hc.old (v := .int .i64 _) rfl rfl rfl) ⟨[], ⟨rfl, rfl⟩, hc.st⟩) ?_
  refine RunD.op (det _) tab7 2 (fun f' L' w' hc => Op1.move (v := .func _ _ _) (hc.old (v := .func _ _ _) rfl rfl rfl) ⟨[], ⟨rfl, rfl⟩, hc.st⟩) ?_
  refine RunD.op (det _) tab7 3 (fun f' L' w' hc => Op1.loadA (vs := [.int .i32 _, .int .i32 _, .int .i32 _]) ty25 rfl (hc.old (v := .pointer (some ⟨_, _, none⟩)) rfl rfl rfl) rfl (cells_of_obj (n := 3) (hc.st.objL (List.mem_append_right _ (.head _))) _ rfl) ⟨[], ⟨rfl, rfl⟩, hc.st⟩) ?_
  refine RunD.op (det _) tab7 4 (fun f' L' w' hc => Op1.callV1 (v1 := .agg #[.int .i32 _, .int .i32 _, .int .i32 _]) (hc.det (j := 1) rfl rfl rfl rfl) (hc.det (j := 2) rfl rfl rfl rfl) ((hof _ _ _ _).mono fun v w hp => ⟨[], ⟨hp.1, rfl⟩, hc.st.keepc hp.2⟩)) ?_
  first | refine RunD.op (det _) tab7 5 (fun f' L' w' hc => Op1.convN ty21 ty3 (hc.det (j := 3) rfl rfl rfl rfl) (wrap_i64 (by omega) (by omega)) ⟨[], ⟨rfl, rfl⟩, hc.st⟩) ?_ | refine RunD.op (det _) tab7 5 (fun f' L' w' hc => Op1.conv ty21 ty3 (hc.det (j := 3) rfl rfl rfl rfl) ⟨[], ⟨rfl, rfl⟩, hc.st⟩) ?_
  refine RunD.op (det _) tab7 6 (fun f' L' w' hc => Op1.min2 (hc.det (j := 0) rfl rfl rfl rfl) (hc.det (j := 4) rfl rfl rfl rfl) ⟨[], ⟨rfl, rfl⟩, hc.st⟩) ?_
  refine RunD.op (det _) tab7 7 (fun f' L' w' hc => Op1.move (v := .int .i64 _) (hc.old (v := .int .i64 _) rfl rfl rfl) ⟨[], ⟨rfl, rfl⟩, hc.st⟩) ?_
  refine RunD.op (det _) tab7 8 (fun f' L' w' hc => Op1.move (v := .func _ _ _) (hc.old (v := .func _ _ _) rfl rfl rfl) ⟨[], ⟨rfl, rfl⟩, hc.st⟩) ?_
  refine RunD.op (det _) tab7 9 (fun f' L' w' hc => Op1.loadA (vs := [.int .i32 _, .int .i32 _, .int .i32 _]) ty25 rfl (hc.old (v := .pointer (some ⟨_, _, none⟩)) rfl rfl rfl) rfl (cells_of_obj (n := 3) (hc.st.objL (List.mem_append_right _ (.head _))) _ rfl) ⟨[], ⟨rfl, rfl⟩, hc.st⟩) ?_
  refine RunD.op (det _) tab7 10 (fun f' L' w' hc => Op1.callV1 (v1 := .agg #[.int .i32 _, .int .i32 _, .int .i32 _]) (hc.det (j := 7) rfl rfl rfl rfl) (hc.det (j := 8) rfl rfl rfl rfl) ((hof _ _ _ _).mono fun v w hp => ⟨[], ⟨hp.1, rfl⟩, hc.st.keepc hp.2⟩)) ?_
  first | refine RunD.op (det _) tab7 11 (fun f' L' w' hc => Op1.convN ty21 ty3 (hc.det (j := 9) rfl rfl rfl rfl) (wrap_i64 (by omega) (by omega)) ⟨[], ⟨rfl, rfl⟩, hc.st⟩) ?_ | refine RunD.op (det _) tab7 11 (fun f' L' w' hc => Op1.conv ty21 ty3 (hc.det (j := 9) rfl rfl rfl rfl) ⟨[], ⟨rfl, rfl⟩, hc.st⟩) ?_
  refine RunD.op (det _) tab7 12 (fun f' L' w' hc => Op1.max2 (hc.det (j := 6) rfl rfl rfl rfl) (hc.det (j := 10) rfl rfl rfl rfl) ⟨[], ⟨rfl, rfl⟩, hc.st⟩) ?_
  refine RunD.op (det _) tab7 13 (fun f' L' w' hc => Op1.assign (v := .int .i64 _) (hc.det (j := 5) rfl rfl rfl rfl) ⟨[], ⟨rfl, rfl⟩, hc.st⟩) ?_
  refine RunD.fin followsMixed tab7 hst rfl (fun f8 w R11 hs9 hd10 hr12 hst => ?_)
  obtain ⟨h29_, r0⟩ := hd10 0 29 rfl rfl
  obtain ⟨h30_, r1⟩ := hd10 1 30 rfl rfl
  obtain ⟨h31_, r2⟩ := hd10 2 31 rfl rfl
  obtain ⟨h32_, r3⟩ := hd10 3 32 rfl rfl
  obtain ⟨h33_, r4⟩ := hd10 4 33 rfl rfl
  obtain ⟨h34_, r5⟩ := hd10 5 34 rfl rfl
  obtain ⟨h35_, r6⟩ := hd10 6 35 rfl rfl
  obtain ⟨h36_, r7⟩ := hd10 7 36 rfl rfl
  obtain ⟨h37_, r8⟩ := hd10 8 37 rfl rfl
  obtain ⟨h38_, r9⟩ := hd10 9 38 rfl rfl
  obtain ⟨h39_, r10⟩ := hd10 10 39 rfl rfl
  obtain ⟨h40_, r11⟩ := hd10 11 40 rfl rfl
  obtain ⟨h7_, r12⟩ := hd10 12 7 rfl rfl
  simp only [show List.range 13 = [0, 1, 2, 3, 4, 5, 6, 7, 8, 9, 10, 11, 12] from rfl, List.flatMap_cons, List.flatMap_nil, List.map_cons, List.map_nil, r0, r1, r2, r3, r4, r5, r6, r7, r8, r9, r10, r11, r12, List.nil_append, List.append_nil, List.cons_append] at hst
  refine RunL.slots (sl := [(1, .int .i64 _), (2, .func _ _ _), (6, .pointer (some ⟨_, _, none⟩)), (7, .int .i64 _), (23, .slice _ _ _), (24, .int .i64 _), (25, .int .i64 _), (40, .int .i64 _)]) ⟨(hs9 1 rfl).trans rfl, (hs9 2 rfl).trans rfl, (hs9 6 rfl).trans rfl, h7_, (hs9 23 rfl).trans rfl, (hs9 24 rfl).trans rfl, (hs9 25 rfl).trans rfl, h40_, trivial⟩ ?_
  clear hs9 hd10 hr12 tab7
  refine RunL.cons (Op1.assign (v := .int .i64 _) rfl ?_)
  refine RunL.nil ?_
  refine run_inBlock ?_
  refine run_region ?_
  refine RunL.cons (Op1.addN rfl rfl rfl (wrap_i64 (by omega) (by omega)) ?_)
  refine RunL.cons (Op1.move (v := .int .i64 _) rfl ?_)
  refine RunL.nil ?_
  refine run_inLoop ?_
  refine run_seq ?_
  refine run_region ?_
  refine RunL.cons (Op1.lss rfl rfl ?_)
  refine RunL.nil ?_
  refine run_seq ?_
  refine run_cond_true (congrArg Value.bool (decide_eq_true (by decide))) ?_
  refine run_skip ?_
  refine run_seq ?_
  refine run_block ?_
  refine run_seq ?_
  refine run_region ?_
  refine RunL.cons (Op1.indexSl ty107 ty25 rfl rfl (by omega) (by omega) ?_)
  refine RunL.cons (Op1.loadA (vs := [.int .i32 _, .int .i32 _, .int .i32 _]) ty25 rfl rfl rfl (cells_of_obj (n := 3) (hst.objL (.tail _ (.tail _ (.head _)))) _ rfl) ?_)
  refine RunL.cons (Op1.alloc hst ty25 fun w b10 hst => ?_)
  refine RunL.cons (Op1.store (v := .agg #[.int .i32 _, .int .i32 _, .int .i32 _]) hst ty25 rfl rfl rfl rfl rfl (.here) (by repeat (first | exact Put.nil | apply Put.put | apply Put.skip)) fun w hst => ?_)
  refine RunL.nil ?_
  refine RunD.start [] hst (bs := [0, 0, 0, 6, 14, 31, 0, 0, 0, 398, 910, 1998, 959, 8191]) (ds := [some 29, some 30, some 31, some 32, some 33, some 34, some 35, some 36, some 37, some 38, some 39, some 40, some 7, some 8]) ⟨by kernel_rfl, by kernel_rfl, by kernel_rfl⟩ (fun tab13 => ?_)
  refine RunD.op (det _) tab13 1 (fun f' L' w' hc => Op1.move (v := .int .i64 _) (hc.old (v := .int .i64 _) rfl rfl rfl) ⟨[], ⟨rfl, rfl⟩, hc.st⟩) ?_
  refine RunD.op (det _) tab13 2 (fun f' L' w' hc => Op1.move (v := .func _ _ _) (hc.old (v := .func _ _ _) rfl rfl rfl) ⟨[], ⟨rfl, rfl⟩, hc.st⟩) ?_
  refine RunD.op (det _) tab13 3 (fun f' L' w' hc => Op1.loadA (vs := [.int .i32 _, .int .i32 _, .int .i32 _]) ty25 rfl (hc.old (v := .pointer (some ⟨_, _, none⟩)) rfl rfl rfl) rfl (cells_of_obj (n := 3) (hc.st.objL (List.mem_append_right _ (.head _))) _ rfl) ⟨[], ⟨rfl, rfl⟩, hc.st⟩) ?_
  refine RunD.op (det _) tab13 4 (fun f' L' w' hc => Op1.callV1 (v1 := .agg #[.int .i32 _, .int .i32 _, .int .i32 _]) (hc.det (j := 1) rfl rfl rfl rfl) (hc.det (j := 2) rfl rfl rfl rfl) ((hof _ _ _ _).mono fun v w hp => ⟨[], ⟨hp.1, rfl⟩, hc.st.keepc hp.2⟩)) ?_
  first | refine RunD.op (det _) tab13 5 (fun f' L' w' hc => Op1.convN ty21 ty3 (hc.det (j := 3) rfl rfl rfl rfl) (wrap_i64 (by omega) (by omega)) ⟨[], ⟨rfl, rfl⟩, hc.st⟩) ?_ | refine RunD.op (det _) tab13 5 (fun f' L' w' hc => Op1.conv ty21 ty3 (hc.det (j := 3) rfl rfl rfl rfl) ⟨[], ⟨rfl, rfl⟩, hc.st⟩) ?_
  refine RunD.op (det _) tab13 6 (fun f' L' w' hc => Op1.min2 (hc.det (j := 0) rfl rfl rfl rfl) (hc.det (j := 4) rfl rfl rfl rfl) ⟨[], ⟨rfl, rfl⟩, hc.st⟩) ?_
  refine RunD.op (det _) tab13 7 (fun f' L' w' hc => Op1.move (v := .int .i64 _) (hc.old (v := .int .i64 _) rfl rfl rfl) ⟨[], ⟨rfl, rfl⟩, hc.st⟩) ?_
  refine RunD.op (det _) tab13 8 (fun f' L' w' hc => Op1.move (v := .func _ _ _) (hc.old (v := .func _ _ _) rfl rfl rfl) ⟨[], ⟨rfl, rfl⟩, hc.st⟩) ?_
  refine RunD.op (det _) tab13 9 (fun f' L' w' hc => Op1.loadA (vs := [.int .i32 _, .int .i32 _, .int .i32 _]) ty25 rfl (hc.old (v := .pointer (some ⟨_, _, none⟩)) rfl rfl rfl) rfl (cells_of_obj (n := 3) (hc.st.objL (List.mem_append_right _ (.head _))) _ rfl) ⟨[], ⟨rfl, rfl⟩, hc.st⟩) ?_
  refine RunD.op (det _) tab13 10 (fun f' L' w' hc => Op1.callV1 (v1 := .agg #[.int .i32 _, .int .i32 _, .int .i32 _]) (hc.det (j := 7) rfl rfl rfl rfl) (hc.det (j := 8) rfl rfl rfl rfl) ((hof _ _ _ _).mono fun v w hp => ⟨[], ⟨hp.1, rfl⟩, hc.st.keepc hp.2⟩)) ?_
  first | refine RunD.op (det _) tab13 11 (fun f' L' w' hc => Op1.convN ty21 ty3 (hc.det (j := 9) rfl rfl rfl rfl) (wrap_i64 (by omega) (by omega)) ⟨[], ⟨rfl, rfl⟩, hc.st⟩) ?_ | refine RunD.op (det _) tab13 11 (fun f' L' w' hc => Op1.conv ty21 ty3 (hc.det (j := 9) rfl rfl rfl rfl) ⟨[], ⟨rfl, rfl⟩, hc.st⟩) ?_
  refine RunD.op (det _) tab13 12 (fun f' L' w' hc => Op1.max2 (hc.det (j := 6) rfl rfl rfl rfl) (hc.det (j := 10) rfl rfl rfl rfl) ⟨[], ⟨rfl, rfl⟩, hc.st⟩) ?_
  refine RunD.op (det _) tab13 13 (fun f' L' w' hc => Op1.assign (v := .int .i64 _) (hc.det (j := 5) rfl rfl rfl rfl) ⟨[], ⟨rfl, rfl⟩, hc.st⟩) ?_
  refine RunD.fin followsMixed tab13 hst rfl (fun f14 w R17 hs15 hd16 hr18 hst => ?_)
  obtain ⟨h29_, r0⟩ := hd16 0 29 rfl rfl
  obtain ⟨h30_, r1⟩ := hd16 1 30 rfl rfl
  obtain ⟨h31_, r2⟩ := hd16 2 31 rfl rfl
  obtain ⟨h32_, r3⟩ := hd16 3 32 rfl rfl
  obtain ⟨h33_, r4⟩ := hd16 4 33 rfl rfl
  obtain ⟨h34_, r5⟩ := hd16 5 34 rfl rfl
  obtain ⟨h35_, r6⟩ := hd16 6 35 rfl rfl
  obtain ⟨h36_, r7⟩ := hd16 7 36 rfl rfl
  obtain ⟨h37_, r8⟩ := hd16 8 37 rfl rfl
  obtain ⟨h38_, r9⟩ := hd16 9 38 rfl rfl
  obtain ⟨h39_, r10⟩ := hd16 10 39 rfl rfl
  obtain ⟨h40_, r11⟩ := hd16 11 40 rfl rfl
  obtain ⟨h7_, r12⟩ := hd16 12 7 rfl rfl
  simp only [show List.range 13 = [0, 1, 2, 3, 4, 5, 6, 7, 8, 9, 10, 11, 12] from rfl, List.flatMap_cons, List.flatMap_nil, List.map_cons, List.map_nil, r0, r1, r2, r3, r4, r5, r6, r7, r8, r9, r10, r11, r12, List.nil_append, List.append_nil, List.cons_append] at hst
  refine RunL.slots (sl := [(1, .int .i64 _), (2, .func _ _ _), (6, .pointer (some ⟨_, _, none⟩)), (7, .int .i64 _), (23, .slice _ _ _), (24, .int .i64 _), (25, .int .i64 _), (40, .int .i64 _)]) ⟨(hs15 1 rfl).trans rfl, (hs15 2 rfl).trans rfl, (hs15 6 rfl).trans rfl, h7_, (hs15 23 rfl).trans rfl, (hs15 24 rfl).trans rfl, (hs15 25 rfl).trans rfl, h40_, trivial⟩ ?_
  clear hs15 hd16 hr18 tab13
  refine RunL.cons (Op1.assign (v := .int .i64 _) rfl ?_)
  refine RunL.nil ?_
  refine run_inBlock ?_
  refine run_region ?_
  refine RunL.cons (Op1.addN rfl rfl rfl (wrap_i64 (by omega) (by omega)) ?_)
  refine RunL.cons (Op1.move (v := .int .i64 _) rfl ?_)
  refine RunL.nil ?_
  refine run_inLoop ?_
  refine run_seq ?_
  refine run_region ?_
  refine RunL.cons (Op1.lss rfl rfl ?_)
  refine RunL.nil ?_
  refine run_seq ?_
  refine run_cond_false (congrArg Value.bool (decide_eq_false (by decide))) ?_
  refine run_exit (id := 0) rfl ?_
  refine run_seq ?_
  refine run_region ?_
  refine RunL.cons (Op1.move (v := .int .i64 _) rfl ?_)
  refine RunL.cons (Op1.subN rfl rfl rfl (wrap_i64 (by omega) (by omega)) ?_)
  refine RunL.cons (Op1.addN rfl rfl rfl (wrap_i64 (by omega) (by omega)) ?_)
  refine RunL.cons (Op1.subN rfl rfl rfl (wrap_i64 (by omega) (by omega)) ?_)
  refine RunL.cons (Op1.shrI (c := _ / 16) rfl rfl (by decide) (by decide) rfl ?_)
  refine RunL.cons (Op1.assign (v := .int .i64 _) rfl ?_)
  refine RunL.nil ?_
  refine run_seq ?_
  refine run_region ?_
  refine RunL.cons (Op1.move (v := .int .i64 _) rfl ?_)
  refine RunL.cons (Op1.subN rfl rfl rfl (wrap_i64 (by omega) (by omega)) ?_)
  refine RunL.cons (Op1.shrI (c := _ / 16) rfl rfl (by decide) (by decide) rfl ?_)
  refine RunL.cons (Op1.assign (v := .int .i64 _) rfl ?_)
  refine RunL.nil ?_
  refine run_seq ?_
  refine run_region ?_
  refine RunL.cons (Op1.move (v := .int .i64 _) rfl ?_)
  refine RunL.cons (Op1.max2 rfl rfl ?_)
  refine RunL.cons (Op1.move (v := .int .i64 _) rfl ?_)
  refine RunL.cons (Op1.addN rfl rfl rfl (wrap_i64 (by omega) (by omega)) ?_)
  refine RunL.cons (Op1.move (v := .int .i64 _) rfl ?_)
  refine RunL.cons (Op1.min2 rfl rfl ?_)
  refine RunL.cons (Op1.buildStruct ty47 stf47 (.cons rfl (v := .int .i64 _) rfl rfl rfl rfl (by repeat (first | exact Put.nil | apply Put.put | apply Put.skip)) (.cons rfl (v := .int .i64 _) rfl rfl rfl rfl (by repeat (first | exact Put.nil | apply Put.put | apply Put.skip)) .nil)) ?_)
  refine RunL.cons (Op1.store (v := .agg #[.int .i64 _, .int .i64 _]) hst ty47 rfl rfl rfl rfl rfl (.there (.there (.here))) (by repeat (first | exact Put.nil | apply Put.put | apply Put.skip)) fun w hst => ?_)
  refine RunL.nil ?_
  refine run_ret1 Try.func67 rfl (RV.cellA (vs := [.int .i64 _, .int .i64 _]) rfl ty47 rfl rfl (cells_of_obj (n := 2) (hst.objL (.tail _ (.tail _ (.head _)))) _ rfl)) ?_
  refine ⟨congrArg Value.agg (congrArg List.toArray ?_), hst.pure⟩
  unfold fromZ toZ lo3 hi3
  simp only [List.cons.injEq, Value.int.injEq, true_and, and_true]
  refine ⟨?_, ?_⟩
  all_goals (repeat' split)
  all_goals omega

/-- the pixels among which a triangle lies: the two sides; whether there are any -/
def boxIs (ax ay bx by_ cx cy wd ht : Int) : Bool := decide ((1 ≤ wd ∧ wd ≤ 1024 ∧ 1 ≤ ht ∧ ht ≤ 1024) ∧ fromZ (lo3 ax bx cx) < toZ (hi3 ax bx cx) wd ∧ fromZ (lo3 ay by_ cy) < toZ (hi3 ay by_ cy) ht)
def boxV (ax ay bx by_ cx cy wd ht : Int) : Int × Int × Int × Int :=
  if boxIs ax ay bx by_ cx cy wd ht then (fromZ (lo3 ax bx cx), toZ (hi3 ax bx cx) wd, fromZ (lo3 ay by_ cy), toZ (hi3 ay by_ cy) ht) else (0, 0, 0, 0)
abbrev boxT (r : Int × Int × Int × Int) (b : Bool) : Value := .tuple #[.agg #[.int .i64 r.1, .int .i64 r.2.1], .agg #[.int .i64 r.2.2.1, .int .i64 r.2.2.2], .bool b]
theorem boxV_no {ax ay bx by_ cx cy wd ht : Int} (h : ¬ ((1 ≤ wd ∧ wd ≤ 1024 ∧ 1 ≤ ht ∧ ht ≤ 1024) ∧ fromZ (lo3 ax bx cx) < toZ (hi3 ax bx cx) wd ∧ fromZ (lo3 ay by_ cy) < toZ (hi3 ay by_ cy) ht)) :
    boxT (0, 0, 0, 0) false = boxT (boxV ax ay bx by_ cx cy wd ht) (boxIs ax ay bx by_ cx cy wd ht) := by
  have : boxIs ax ay bx by_ cx cy wd ht = false := decide_eq_false h
  unfold boxV; rw [this]; rfl
theorem boxV_yes {ax ay bx by_ cx cy wd ht : Int} (h : ((1 ≤ wd ∧ wd ≤ 1024 ∧ 1 ≤ ht ∧ ht ≤ 1024) ∧ fromZ (lo3 ax bx cx) < toZ (hi3 ax bx cx) wd ∧ fromZ (lo3 ay by_ cy) < toZ (hi3 ay by_ cy) ht)) :
    boxT (fromZ (lo3 ax bx cx), toZ (hi3 ax bx cx) wd, fromZ (lo3 ay by_ cy), toZ (hi3 ay by_ cy) ht) true = boxT (boxV ax ay bx by_ cx cy wd ht) (boxIs ax ay bx by_ cx cy wd ht) := by
  have : boxIs ax ay bx by_ cx cy wd ht = true := decide_eq_true h
  unfold boxV; rw [this]; rfl
theorem cov_Box (ax ay az bx by_ bz cx cy cz : Int) (wd ht : Int) (w : World) : Ret Try.prog 39 #[.agg #[.int .i32 ax, .int .i32 ay, .int .i32 az, .int .i32 bx, .int .i32 by_, .int .i32 bz, .int .i32 cx, .int .i32 cy, .int .i32 cz], .int .i64 wd, .int .i64 ht] w (fun v w' => v = boxT (boxV (clampZ ax) (clampZ ay) (clampZ bx) (clampZ by_) (clampZ cx) (clampZ cy) wd ht) (boxIs (clampZ ax) (clampZ ay) (clampZ bx) (clampZ by_) (clampZ cx) (clampZ cy) wd ht) ∧ St w NoM [] [] w') := by
  refine Ret.enter (args := [.agg #[.int .i32 ax, .int .i32 ay, .int .i32 az, .int .i32 bx, .int .i32 by_, .int .i32 bz, .int .i32 cx, .int .i32 cy, .int .i32 cz], .int .i64 wd, .int .i64 ht]) Try.func39 rfl rfl rfl ?_
  have hst := St.init w
  refine run_seq ?_
  refine run_region ?_
  refine RunL.cons (Op1.box (v := .agg #[.int .i32 _, .int .i32 _, .int .i32 _, .int .i32 _, .int .i32 _, .int .i32 _, .int .i32 _, .int .i32 _, .int .i32 _]) hst rfl rfl fun w b3 hst => ?_)
  refine RunL.cons (Op1.alloc hst ty47 fun w b6 hst => ?_)
  refine RunL.cons (Op1.alloc hst ty47 fun w b7 hst => ?_)
  refine RunL.cons (Op1.assign (v := .bool _) rfl ?_)
  refine RunL.nil ?_
  refine run_seq ?_
  refine run_seq ?_
  refine run_region ?_
  refine RunL.cons (Op1.move (v := .int .i64 _) rfl ?_)
  refine RunL.cons (Op1.move (v := .int .i64 _) rfl ?_)
  refine RunL.cons (Op1.call2 (v1 := .int .i64 _) (v2 := .int .i64 _) ent66 rfl rfl rfl ((cov_picture _ _ _).mono fun v w hp => ?_))
  obtain ⟨rfl, hp⟩ := hp
  replace hst := hst.keepc hp
  clear hp
  refine RunL.cons (Op1.notD rfl ?_)
  refine RunL.nil ?_
  refine run_cond_dec rfl (fun g1 => ?_) (fun g1 => ?_)
  · skip
    refine run_seq ?_
    refine run_region ?_
    refine RunL.cons (Op1.buildStruct ty47 stf47 .nil ?_)
    refine RunL.cons (Op1.buildStruct ty47 stf47 .nil ?_)
    refine RunL.cons (Op1.store (v := .agg #[.int .i64 _, .int .i64 _]) hst ty47 rfl rfl rfl rfl rfl (.there (.here)) (by repeat (first | exact Put.nil | apply Put.put | apply Put.skip)) fun w hst => ?_)
    refine RunL.cons (Op1.store (v := .agg #[.int .i64 _, .int .i64 _]) hst ty47 rfl rfl rfl rfl rfl (.here) (by repeat (first | exact Put.nil | apply Put.put | apply Put.skip)) fun w hst => ?_)
    refine RunL.cons (Op1.assign (v := .bool _) rfl ?_)
    refine RunL.nil ?_
    refine run_ret3 Try.func39 rfl (RV.cellA (vs := [.int .i64 _, .int .i64 _]) rfl ty47 rfl rfl (cells_of_obj (n := 2) (hst.objL (.tail _ (.head _))) _ rfl)) (RV.cellA (vs := [.int .i64 _, .int .i64 _]) rfl ty47 rfl rfl (cells_of_obj (n := 2) (hst.objL (.head _)) _ rfl)) (RV.tmp (v := .bool _) rfl) ?_
    exact ⟨boxV_no (by omega), hst.pure⟩
  · skip
    refine run_skip ?_
    refine run_seq ?_
    refine run_region ?_
    refine RunL.cons (Op1.loadA (vs := [.int .i32 _, .int .i32 _, .int .i32 _, .int .i32 _, .int .i32 _, .int .i32 _, .int .i32 _, .int .i32 _, .int .i32 _]) ty27 rfl rfl rfl (cells_of_obj (n := 9) (hst.objL (.tail _ (.tail _ (.head _)))) _ rfl) ?_)
    refine RunL.cons (Op1.move (v := .int .i64 _) rfl ?_)
    refine RunL.cons (Op1.call3 (v1 := .agg #[.int .i32 _, .int .i32 _, .int .i32 _, .int .i32 _, .int .i32 _, .int .i32 _, .int .i32 _, .int .i32 _, .int .i32 _]) (v2 := .int .i64 _) (v3 := .func _ _ _) ent67 rfl rfl rfl rfl ((cov_side _ _ _ _ _ _ _ _ _ _ _ (fun x y z => clampZ x) (fun x y z => clampZ_bd x) (by omega) (fun x y z w => CallV.func (cap := []) ent68 (cov_box1 x y z w)) _).mono fun v w hp => ?_))
    obtain ⟨rfl, hp⟩ := hp
    replace hst := hst.keepc hp
    clear hp
    refine RunL.cons (Op1.alloc hst ty47 fun w b9 hst => ?_)
    refine RunL.cons (Op1.store (v := .agg #[.int .i64 _, .int .i64 _]) hst ty47 rfl rfl rfl rfl rfl (.here) (by repeat (first | exact Put.nil | apply Put.put | apply Put.skip)) fun w hst => ?_)
    refine RunL.nil ?_
    refine run_seq ?_
    refine run_region ?_
    refine RunL.cons (Op1.loadA (vs := [.int .i32 _, .int .i32 _, .int .i32 _, .int .i32 _, .int .i32 _, .int .i32 _, .int .i32 _, .int .i32 _, .int .i32 _]) ty27 rfl rfl rfl (cells_of_obj (n := 9) (hst.objL (.tail _ (.tail _ (.tail _ (.head _))))) _ rfl) ?_)
    refine RunL.cons (Op1.move (v := .int .i64 _) rfl ?_)
    refine RunL.cons (Op1.call3 (v1 := .agg #[.int .i32 _, .int .i32 _, .int .i32 _, .int .i32 _, .int .i32 _, .int .i32 _, .int .i32 _, .int .i32 _, .int .i32 _]) (v2 := .int .i64 _) (v3 := .func _ _ _) ent67 rfl rfl rfl rfl ((cov_side _ _ _ _ _ _ _ _ _ _ _ (fun x y z => clampZ y) (fun x y z => clampZ_bd y) (by omega) (fun x y z w => CallV.func (cap := []) ent69 (cov_box2 x y z w)) _).mono fun v w hp => ?_))
    obtain ⟨rfl, hp⟩ := hp
    replace hst := hst.keepc hp
    clear hp
    refine RunL.cons (Op1.alloc hst ty47 fun w b10 hst => ?_)
    refine RunL.cons (Op1.store (v := .agg #[.int .i64 _, .int .i64 _]) hst ty47 rfl rfl rfl rfl rfl (.here) (by repeat (first | exact Put.nil | apply Put.put | apply Put.skip)) fun w hst => ?_)
    refine RunL.nil ?_
    refine run_seq ?_
    refine run_seq ?_
    refine run_region ?_
    refine RunL.cons (Op1.fieldAddr fld47_0 rfl ?_)
    refine RunL.cons (Op1.load1 (v := .int .i64 _) ty3 rfl rfl (hst.cellL (.tail _ (.head _)) rfl) ?_)
    refine RunL.cons (Op1.fieldAddr fld47_1 rfl ?_)
    refine RunL.cons (Op1.load1 (v := .int .i64 _) ty3 rfl rfl (hst.cellL (.tail _ (.head _)) rfl) ?_)
    refine RunL.cons (Op1.geq rfl rfl ?_)
    refine RunL.cons (Op1.move (v := .bool _) rfl ?_)
    refine RunL.splitD (d := 28) rfl (fun g2 => ?_) (fun g2 => ?_)
    · skip
      refine RunL.omit (t := 28) rfl (congrArg Value.bool (decide_eq_true g2)) rfl ?_
      refine RunL.omit (t := 28) rfl (congrArg Value.bool (decide_eq_true g2)) rfl ?_
      refine RunL.omit (t := 28) rfl (congrArg Value.bool (decide_eq_true g2)) rfl ?_
      refine RunL.omit (t := 28) rfl (congrArg Value.bool (decide_eq_true g2)) rfl ?_
      refine RunL.omit (t := 28) rfl (congrArg Value.bool (decide_eq_true g2)) rfl ?_
      refine RunL.cons (Op1.pickT (u := .bool _) (congrArg Value.bool (decide_eq_true g2)) rfl ?_)
      refine RunL.nil ?_
      refine run_cond_true (congrArg Value.bool (rfl : true = _)) ?_
      refine run_seq ?_
      refine run_region ?_
      refine RunL.cons (Op1.buildStruct ty47 stf47 .nil ?_)
      refine RunL.cons (Op1.buildStruct ty47 stf47 .nil ?_)
      refine RunL.cons (Op1.store (v := .agg #[.int .i64 _, .int .i64 _]) hst ty47 rfl rfl rfl rfl rfl (.there (.there (.there (.here)))) (by repeat (first | exact Put.nil | apply Put.put | apply Put.skip)) fun w hst => ?_)
      refine RunL.cons (Op1.store (v := .agg #[.int .i64 _, .int .i64 _]) hst ty47 rfl rfl rfl rfl rfl (.there (.there (.here))) (by repeat (first | exact Put.nil | apply Put.put | apply Put.skip)) fun w hst => ?_)
      refine RunL.cons (Op1.assign (v := .bool _) rfl ?_)
      refine RunL.nil ?_
      refine run_ret3 Try.func39 rfl (RV.cellA (vs := [.int .i64 _, .int .i64 _]) rfl ty47 rfl rfl (cells_of_obj (n := 2) (hst.objL (.tail _ (.tail _ (.tail _ (.head _))))) _ rfl)) (RV.cellA (vs := [.int .i64 _, .int .i64 _]) rfl ty47 rfl rfl (cells_of_obj (n := 2) (hst.objL (.tail _ (.tail _ (.head _)))) _ rfl)) (RV.tmp (v := .bool _) rfl) ?_
      exact ⟨boxV_no (by omega), hst.pure⟩
    · skip
      refine RunL.take (t := 28) rfl (congrArg Value.bool (decide_eq_false g2)) (Op1.fieldAddr fld47_0 rfl ?_)
      refine RunL.take (t := 28) rfl (congrArg Value.bool (decide_eq_false g2)) (Op1.load1 (v := .int .i64 _) ty3 rfl rfl (hst.cellL (.head _) rfl) ?_)
      refine RunL.take (t := 28) rfl (congrArg Value.bool (decide_eq_false g2)) (Op1.fieldAddr fld47_1 rfl ?_)
      refine RunL.take (t := 28) rfl (congrArg Value.bool (decide_eq_false g2)) (Op1.load1 (v := .int .i64 _) ty3 rfl rfl (hst.cellL (.head _) rfl) ?_)
      refine RunL.take (t := 28) rfl (congrArg Value.bool (decide_eq_false g2)) (Op1.geq rfl rfl ?_)
      refine RunL.cons (Op1.pickF (u := .bool _) (congrArg Value.bool (decide_eq_false g2)) rfl ?_)
      refine RunL.nil ?_
      refine run_cond_dec rfl (fun g3 => ?_) (fun g3 => ?_)
      · skip
        refine run_seq ?_
        refine run_region ?_
        refine RunL.cons (Op1.buildStruct ty47 stf47 .nil ?_)
        refine RunL.cons (Op1.buildStruct ty47 stf47 .nil ?_)
        refine RunL.cons (Op1.store (v := .agg #[.int .i64 _, .int .i64 _]) hst ty47 rfl rfl rfl rfl rfl (.there (.there (.there (.here)))) (by repeat (first | exact Put.nil | apply Put.put | apply Put.skip)) fun w hst => ?_)
        refine RunL.cons (Op1.store (v := .agg #[.int .i64 _, .int .i64 _]) hst ty47 rfl rfl rfl rfl rfl (.there (.there (.here))) (by repeat (first | exact Put.nil | apply Put.put | apply Put.skip)) fun w hst => ?_)
        refine RunL.cons (Op1.assign (v := .bool _) rfl ?_)
        refine RunL.nil ?_
        refine run_ret3 Try.func39 rfl (RV.cellA (vs := [.int .i64 _, .int .i64 _]) rfl ty47 rfl rfl (cells_of_obj (n := 2) (hst.objL (.tail _ (.tail _ (.tail _ (.head _))))) _ rfl)) (RV.cellA (vs := [.int .i64 _, .int .i64 _]) rfl ty47 rfl rfl (cells_of_obj (n := 2) (hst.objL (.tail _ (.tail _ (.head _)))) _ rfl)) (RV.tmp (v := .bool _) rfl) ?_
        exact ⟨boxV_no (by omega), hst.pure⟩
      · skip
        refine run_skip ?_
        refine run_seq ?_
        replace hst := hst.pick (.cons (.there (.there (.there (.here)))) (.cons (.here) (.cons (.here) (.cons (.here) (.cons (.here) .nil)))))
        apply RunD.start [(2, Res.row b6 47 _, Res.row b6 47 _)] hst (bs := [0, 0, 1, 7, 15]) (ds := [some 37, some 38, none, none, some 8]) (htab := ⟨by kernel_rfl, by kernel_rfl, by kernel_rfl⟩)
        intro tab4
        refine RunD.op (det _) tab4 1 (fun f' L' w' hc => Op1.loadA (vs := [.int .i64 _, .int .i64 _]) ty47 rfl (hc.old (v := .pointer (some ⟨_, _, none⟩)) rfl rfl rfl) rfl (cells_of_obj (n := 2) (hc.st.objL (List.mem_append_right _ (.tail _ (.head _)))) _ rfl) ⟨[], ⟨rfl, rfl⟩, hc.st⟩) ?_
        refine RunD.op (det _) tab4 2 (fun f' L' w' hc => Op1.loadA (vs := [.int .i64 _, .int .i64 _]) ty47 rfl (hc.old (v := .pointer (some ⟨_, _, none⟩)) rfl rfl rfl) rfl (cells_of_obj (n := 2) (hc.st.objL (List.mem_append_right _ (.head _))) _ rfl) ⟨[], ⟨rfl, rfl⟩, hc.st⟩) ?_
        refine RunD.own tab4 3 (.head _) (fun f' L' L2 w' hc hsel => Op1.store (v := .agg #[.int .i64 _, .int .i64 _]) hc.st ty47 (hc.old (v := .pointer (some ⟨_, _, none⟩)) rfl rfl rfl) (hc.det (j := 0) rfl rfl rfl rfl) rfl rfl rfl hsel (by repeat (first | exact Put.nil | apply Put.put | apply Put.skip)) fun w hst => ⟨rfl, hst⟩) ?_
        refine RunD.fin followsMixed tab4 hst rfl (fun f5 w R8 hs6 hd7 hr9 hst => ?_)
        obtain ⟨h37_, r0⟩ := hd7 0 37 rfl rfl
        obtain ⟨h38_, r1⟩ := hd7 1 38 rfl rfl
        obtain ⟨_, _, r2⟩ := hr9 2 rfl
        simp only [show List.range 3 = [0, 1, 2] from rfl, List.flatMap_cons, List.flatMap_nil, List.map_cons, List.map_nil, r0, r1, r2, List.nil_append, List.append_nil, List.cons_append] at hst
        refine RunL.slots (sl := [(6, .pointer (some ⟨_, _, none⟩)), (7, .pointer (some ⟨_, _, none⟩)), (38, .agg #[.int .i64 _, .int .i64 _])]) ⟨(hs6 6 rfl).trans rfl, (hs6 7 rfl).trans rfl, h38_, trivial⟩ ?_
        clear hs6 hd7 hr9 tab4
        refine RunL.cons (Op1.store (v := .agg #[.int .i64 _, .int .i64 _]) hst ty47 rfl rfl rfl rfl rfl (.there (.there (.there (.here)))) (by repeat (first | exact Put.nil | apply Put.put | apply Put.skip)) fun w hst => ?_)
        refine RunL.cons (Op1.assign (v := .bool _) rfl ?_)
        refine RunL.nil ?_
        refine run_ret3 Try.func39 rfl (RV.cellA (vs := [.int .i64 _, .int .i64 _]) rfl ty47 rfl rfl (cells_of_obj (n := 2) (hst.objL (.head _)) _ rfl)) (RV.cellA (vs := [.int .i64 _, .int .i64 _]) rfl ty47 rfl rfl (cells_of_obj (n := 2) (hst.objL (.tail _ (.tail _ (.tail _ (.head _))))) _ rfl)) (RV.tmp (v := .bool _) rfl) ?_
        exact ⟨boxV_yes ⟨by omega, by omega⟩, hst.pure⟩

end Go.SK
