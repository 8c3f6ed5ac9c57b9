/-
  Walks of functions, and of the laws over them.
-/
import Derived.Test.YtnbapjkldjhjoaaSkFacts1
set_option linter.unusedVariables false
set_option linter.unusedSimpArgs false
namespace Go.SK
open Go Go.Proofs
open Go.RowKit
theorem layout_ends (x : Int) (w : World) : Ret Try.prog 21 #[.int .u16 x] w (fun v w' => v = .bool (decide (249 ≤ x ∧ x ≤ 255)) ∧ St w NoM [] [] w') := by
  refine Ret.enter (args := [.int .u16 x]) Try.func21 rfl rfl rfl ?_
  have hst := St.init w
  refine run_seq ?_
  refine run_region ?_
  refine RunL.cons (Op1.assign (v := .bool _) rfl ?_)
  refine RunL.nil ?_
  refine run_seq ?_
  refine run_region ?_
  refine RunL.cons (Op1.move (v := .int .u16 _) rfl ?_)
  refine RunL.cons (Op1.geq rfl rfl ?_)
  refine RunL.cons (Op1.move (v := .bool _) rfl ?_)
  refine RunL.splitD (d := 5) rfl (fun g1 => ?_) (fun g1 => ?_)
  · skip
    refine RunL.take (t := 5) rfl (congrArg Value.bool (decide_eq_true g1)) (Op1.move (v := .int .u16 _) rfl ?_)
    refine RunL.take (t := 5) rfl (congrArg Value.bool (decide_eq_true g1)) (Op1.leq rfl rfl ?_)
    refine RunL.cons (Op1.pickT (u := .bool _) (congrArg Value.bool (decide_eq_true g1)) rfl ?_)
    refine RunL.cons (Op1.assign (v := .bool _) rfl ?_)
    refine RunL.nil ?_
    refine run_ret1 Try.func21 rfl (RV.tmp (v := .bool _) rfl) ?_
    refine ⟨congrArg Value.bool ?_, hst.pure⟩
    first | (rw [decide_eq_decide]; omega) | exact (decide_eq_false (by omega)).symm | exact (decide_eq_true (by omega)).symm
  · skip
    refine RunL.omit (t := 5) rfl (congrArg Value.bool (decide_eq_false g1)) rfl ?_
    refine RunL.omit (t := 5) rfl (congrArg Value.bool (decide_eq_false g1)) rfl ?_
    refine RunL.cons (Op1.pickF (u := .bool _) (congrArg Value.bool (decide_eq_false g1)) rfl ?_)
    refine RunL.cons (Op1.assign (v := .bool _) rfl ?_)
    refine RunL.nil ?_
    refine run_ret1 Try.func21 rfl (RV.tmp (v := .bool _) rfl) ?_
    refine ⟨congrArg Value.bool ?_, hst.pure⟩
    first | (rw [decide_eq_decide]; omega) | exact (decide_eq_false (by omega)).symm | exact (decide_eq_true (by omega)).symm

theorem ref_ends (x : Int) (w : World) : Ret Try.prog 22 #[.int .u16 x] w (fun v w' => v = .bool (decide (249 ≤ x ∧ x ≤ 255)) ∧ St w NoM [] [] w') := by
  refine Ret.enter (args := [.int .u16 x]) Try.func22 rfl rfl rfl ?_
  have hst := St.init w
  refine run_seq ?_
  refine run_region ?_
  refine RunL.cons (Op1.assign (v := .bool _) rfl ?_)
  refine RunL.nil ?_
  refine run_seq ?_
  refine run_region ?_
  refine RunL.cons (Op1.move (v := .int .u16 _) rfl ?_)
  refine RunL.cons (Op1.eql rfl rfl ?_)
  refine RunL.cons (Op1.move (v := .bool _) rfl ?_)
  refine RunL.splitD (d := 5) rfl (fun g1 => ?_) (fun g1 => ?_)
  · skip
    refine RunL.omit (t := 5) rfl (congrArg Value.bool (decide_eq_true g1)) rfl ?_
    refine RunL.omit (t := 5) rfl (congrArg Value.bool (decide_eq_true g1)) rfl ?_
    refine RunL.cons (Op1.pickT (u := .bool _) (congrArg Value.bool (decide_eq_true g1)) rfl ?_)
    refine RunL.cons (Op1.move (v := .bool _) rfl ?_)
    refine RunL.omit (t := 9) rfl (congrArg Value.bool (rfl : true = _)) rfl ?_
    refine RunL.omit (t := 9) rfl (congrArg Value.bool (rfl : true = _)) rfl ?_
    refine RunL.cons (Op1.pickT (u := .bool _) (congrArg Value.bool (rfl : true = _)) rfl ?_)
    refine RunL.cons (Op1.move (v := .bool _) rfl ?_)
    refine RunL.omit (t := 13) rfl (congrArg Value.bool (rfl : true = _)) rfl ?_
    refine RunL.omit (t := 13) rfl (congrArg Value.bool (rfl : true = _)) rfl ?_
    refine RunL.cons (Op1.pickT (u := .bool _) (congrArg Value.bool (rfl : true = _)) rfl ?_)
    refine RunL.cons (Op1.move (v := .bool _) rfl ?_)
    refine RunL.omit (t := 17) rfl (congrArg Value.bool (rfl : true = _)) rfl ?_
    refine RunL.omit (t := 17) rfl (congrArg Value.bool (rfl : true = _)) rfl ?_
    refine RunL.cons (Op1.pickT (u := .bool _) (congrArg Value.bool (rfl : true = _)) rfl ?_)
    refine RunL.cons (Op1.move (v := .bool _) rfl ?_)
    refine RunL.omit (t := 21) rfl (congrArg Value.bool (rfl : true = _)) rfl ?_
    refine RunL.omit (t := 21) rfl (congrArg Value.bool (rfl : true = _)) rfl ?_
    refine RunL.cons (Op1.pickT (u := .bool _) (congrArg Value.bool (rfl : true = _)) rfl ?_)
    refine RunL.cons (Op1.move (v := .bool _) rfl ?_)
    refine RunL.omit (t := 25) rfl (congrArg Value.bool (rfl : true = _)) rfl ?_
    refine RunL.omit (t := 25) rfl (congrArg Value.bool (rfl : true = _)) rfl ?_
    refine RunL.cons (Op1.pickT (u := .bool _) (congrArg Value.bool (rfl : true = _)) rfl ?_)
    refine RunL.cons (Op1.assign (v := .bool _) rfl ?_)
    refine RunL.nil ?_
    refine run_ret1 Try.func22 rfl (RV.tmp (v := .bool _) rfl) ?_
    refine ⟨congrArg Value.bool ?_, hst.pure⟩
    first | (rw [decide_eq_decide]; omega) | exact (decide_eq_false (by omega)).symm | exact (decide_eq_true (by omega)).symm
  · skip
    refine RunL.take (t := 5) rfl (congrArg Value.bool (decide_eq_false g1)) (Op1.move (v := .int .u16 _) rfl ?_)
    refine RunL.take (t := 5) rfl (congrArg Value.bool (decide_eq_false g1)) (Op1.eql rfl rfl ?_)
    refine RunL.cons (Op1.pickF (u := .bool _) (congrArg Value.bool (decide_eq_false g1)) rfl ?_)
    refine RunL.cons (Op1.move (v := .bool _) rfl ?_)
    refine RunL.splitD (d := 9) rfl (fun g2 => ?_) (fun g2 => ?_)
    · skip
      refine RunL.omit (t := 9) rfl (congrArg Value.bool (decide_eq_true g2)) rfl ?_
      refine RunL.omit (t := 9) rfl (congrArg Value.bool (decide_eq_true g2)) rfl ?_
      refine RunL.cons (Op1.pickT (u := .bool _) (congrArg Value.bool (decide_eq_true g2)) rfl ?_)
      refine RunL.cons (Op1.move (v := .bool _) rfl ?_)
      refine RunL.omit (t := 13) rfl (congrArg Value.bool (rfl : true = _)) rfl ?_
      refine RunL.omit (t := 13) rfl (congrArg Value.bool (rfl : true = _)) rfl ?_
      refine RunL.cons (Op1.pickT (u := .bool _) (congrArg Value.bool (rfl : true = _)) rfl ?_)
      refine RunL.cons (Op1.move (v := .bool _) rfl ?_)
      refine RunL.omit (t := 17) rfl (congrArg Value.bool (rfl : true = _)) rfl ?_
      refine RunL.omit (t := 17) rfl (congrArg Value.bool (rfl : true = _)) rfl ?_
      refine RunL.cons (Op1.pickT (u := .bool _) (congrArg Value.bool (rfl : true = _)) rfl ?_)
      refine RunL.cons (Op1.move (v := .bool _) rfl ?_)
      refine RunL.omit (t := 21) rfl (congrArg Value.bool (rfl : true = _)) rfl ?_
      refine RunL.omit (t := 21) rfl (congrArg Value.bool (rfl : true = _)) rfl ?_
      refine RunL.cons (Op1.pickT (u := .bool _) (congrArg Value.bool (rfl : true = _)) rfl ?_)
      refine RunL.cons (Op1.move (v := .bool _) rfl ?_)
      refine RunL.omit (t := 25) rfl (congrArg Value.bool (rfl : true = _)) rfl ?_
      refine RunL.omit (t := 25) rfl (congrArg Value.bool (rfl : true = _)) rfl ?_
      refine RunL.cons (Op1.pickT (u := .bool _) (congrArg Value.bool (rfl : true = _)) rfl ?_)
      refine RunL.cons (Op1.assign (v := .bool _) rfl ?_)
      refine RunL.nil ?_
      refine run_ret1 Try.func22 rfl (RV.tmp (v := .bool _) rfl) ?_
      refine ⟨congrArg Value.bool ?_, hst.pure⟩
      first | (rw [decide_eq_decide]; omega) | exact (decide_eq_false (by omega)).symm | exact (decide_eq_true (by omega)).symm
    · skip
      refine RunL.take (t := 9) rfl (congrArg Value.bool (decide_eq_false g2)) (Op1.move (v := .int .u16 _) rfl ?_)
      refine RunL.take (t := 9) rfl (congrArg Value.bool (decide_eq_false g2)) (Op1.eql rfl rfl ?_)
      refine RunL.cons (Op1.pickF (u := .bool _) (congrArg Value.bool (decide_eq_false g2)) rfl ?_)
      refine RunL.cons (Op1.move (v := .bool _) rfl ?_)
      refine RunL.splitD (d := 13) rfl (fun g3 => ?_) (fun g3 => ?_)
      · skip
        refine RunL.omit (t := 13) rfl (congrArg Value.bool (decide_eq_true g3)) rfl ?_
        refine RunL.omit (t := 13) rfl (congrArg Value.bool (decide_eq_true g3)) rfl ?_
        refine RunL.cons (Op1.pickT (u := .bool _) (congrArg Value.bool (decide_eq_true g3)) rfl ?_)
        refine RunL.cons (Op1.move (v := .bool _) rfl ?_)
        refine RunL.omit (t := 17) rfl (congrArg Value.bool (rfl : true = _)) rfl ?_
        refine RunL.omit (t := 17) rfl (congrArg Value.bool (rfl : true = _)) rfl ?_
        refine RunL.cons (Op1.pickT (u := .bool _) (congrArg Value.bool (rfl : true = _)) rfl ?_)
        refine RunL.cons (Op1.move (v := .bool _) rfl ?_)
        refine RunL.omit (t := 21) rfl (congrArg Value.bool (rfl : true = _)) rfl ?_
        refine RunL.omit (t := 21) rfl (congrArg Value.bool (rfl : true = _)) rfl ?_
        refine RunL.cons (Op1.pickT (u := .bool _) (congrArg Value.bool (rfl : true = _)) rfl ?_)
        refine RunL.cons (Op1.move (v := .bool _) rfl ?_)
        refine RunL.omit (t := 25) rfl (congrArg Value.bool (rfl : true = _)) rfl ?_
        refine RunL.omit (t := 25) rfl (congrArg Value.bool (rfl : true = _)) rfl ?_
        refine RunL.cons (Op1.pickT (u := .bool _) (congrArg Value.bool (rfl : true = _)) rfl ?_)
        refine RunL.cons (Op1.assign (v := .bool _) rfl ?_)
        refine RunL.nil ?_
        refine run_ret1 Try.func22 rfl (RV.tmp (v := .bool _) rfl) ?_
        refine ⟨congrArg Value.bool ?_, hst.pure⟩
        first | (rw [decide_eq_decide]; omega) | exact (decide_eq_false (by omega)).symm | exact (decide_eq_true (by omega)).symm
      · skip
        refine RunL.take (t := 13) rfl (congrArg Value.bool (decide_eq_false g3)) (Op1.move (v := .int .u16 _) rfl ?_)
        refine RunL.take (t := 13) rfl (congrArg Value.bool (decide_eq_false g3)) (Op1.eql rfl rfl ?_)
        refine RunL.cons (Op1.pickF (u := .bool _) (congrArg Value.bool (decide_eq_false g3)) rfl ?_)
        refine RunL.cons (Op1.move (v := .bool _) rfl ?_)
        refine RunL.splitD (d := 17) rfl (fun g4 => ?_) (fun g4 => ?_)
        · skip
          refine RunL.omit (t := 17) rfl (congrArg Value.bool (decide_eq_true g4)) rfl ?_
          refine RunL.omit (t := 17) rfl (congrArg Value.bool (decide_eq_true g4)) rfl ?_
          refine RunL.cons (Op1.pickT (u := .bool _) (congrArg Value.bool (decide_eq_true g4)) rfl ?_)
          refine RunL.cons (Op1.move (v := .bool _) rfl ?_)
          refine RunL.omit (t := 21) rfl (congrArg Value.bool (rfl : true = _)) rfl ?_
          refine RunL.omit (t := 21) rfl (congrArg Value.bool (rfl : true = _)) rfl ?_
          refine RunL.cons (Op1.pickT (u := .bool _) (congrArg Value.bool (rfl : true = _)) rfl ?_)
          refine RunL.cons (Op1.move (v := .bool _) rfl ?_)
          refine RunL.omit (t := 25) rfl (congrArg Value.bool (rfl : true = _)) rfl ?_
          refine RunL.omit (t := 25) rfl (congrArg Value.bool (rfl : true = _)) rfl ?_
          refine RunL.cons (Op1.pickT (u := .bool _) (congrArg Value.bool (rfl : true = _)) rfl ?_)
          refine RunL.cons (Op1.assign (v := .bool _) rfl ?_)
          refine RunL.nil ?_
          refine run_ret1 Try.func22 rfl (RV.tmp (v := .bool _) rfl) ?_
          refine ⟨congrArg Value.bool ?_, hst.pure⟩
          first | (rw [decide_eq_decide]; omega) | exact (decide_eq_false (by omega)).symm | exact (decide_eq_true (by omega)).symm
        · skip
          refine RunL.take (t := 17) rfl (congrArg Value.bool (decide_eq_false g4)) (Op1.move (v := .int .u16 _) rfl ?_)
          refine RunL.take (t := 17) rfl (congrArg Value.bool (decide_eq_false g4)) (Op1.eql rfl rfl ?_)
          refine RunL.cons (Op1.pickF (u := .bool _) (congrArg Value.bool (decide_eq_false g4)) rfl ?_)
          refine RunL.cons (Op1.move (v := .bool _) rfl ?_)
          refine RunL.splitD (d := 21) rfl (fun g5 => ?_) (fun g5 => ?_)
          · skip
            refine RunL.omit (t := 21) rfl (congrArg Value.bool (decide_eq_true g5)) rfl ?_
            refine RunL.omit (t := 21) rfl (congrArg Value.bool (decide_eq_true g5)) rfl ?_
            refine RunL.cons (Op1.pickT (u := .bool _) (congrArg Value.bool (decide_eq_true g5)) rfl ?_)
            refine RunL.cons (Op1.move (v := .bool _) rfl ?_)
            refine RunL.omit (t := 25) rfl (congrArg Value.bool (rfl : true = _)) rfl ?_
            refine RunL.omit (t := 25) rfl (congrArg Value.bool (rfl : true = _)) rfl ?_
            refine RunL.cons (Op1.pickT (u := .bool _) (congrArg Value.bool (rfl : true = _)) rfl ?_)
            refine RunL.cons (Op1.assign (v := .bool _) rfl ?_)
            refine RunL.nil ?_
            refine run_ret1 Try.func22 rfl (RV.tmp (v := .bool _) rfl) ?_
            refine ⟨congrArg Value.bool ?_, hst.pure⟩
            first | (rw [decide_eq_decide]; omega) | exact (decide_eq_false (by omega)).symm | exact (decide_eq_true (by omega)).symm
          · skip
            refine RunL.take (t := 21) rfl (congrArg Value.bool (decide_eq_false g5)) (Op1.move (v := .int .u16 _) rfl ?_)
            refine RunL.take (t := 21) rfl (congrArg Value.bool (decide_eq_false g5)) (Op1.eql rfl rfl ?_)
            refine RunL.cons (Op1.pickF (u := .bool _) (congrArg Value.bool (decide_eq_false g5)) rfl ?_)
            refine RunL.cons (Op1.move (v := .bool _) rfl ?_)
            refine RunL.splitD (d := 25) rfl (fun g6 => ?_) (fun g6 => ?_)
            · skip
              refine RunL.omit (t := 25) rfl (congrArg Value.bool (decide_eq_true g6)) rfl ?_
              refine RunL.omit (t := 25) rfl (congrArg Value.bool (decide_eq_true g6)) rfl ?_
              refine RunL.cons (Op1.pickT (u := .bool _) (congrArg Value.bool (decide_eq_true g6)) rfl ?_)
              refine RunL.cons (Op1.assign (v := .bool _) rfl ?_)
              refine RunL.nil ?_
              refine run_ret1 Try.func22 rfl (RV.tmp (v := .bool _) rfl) ?_
              refine ⟨congrArg Value.bool ?_, hst.pure⟩
              first | (rw [decide_eq_decide]; omega) | exact (decide_eq_false (by omega)).symm | exact (decide_eq_true (by omega)).symm
            · skip
              refine RunL.take (t := 25) rfl (congrArg Value.bool (decide_eq_false g6)) (Op1.move (v := .int .u16 _) rfl ?_)
              refine RunL.take (t := 25) rfl (congrArg Value.bool (decide_eq_false g6)) (Op1.eql rfl rfl ?_)
              refine RunL.cons (Op1.pickF (u := .bool _) (congrArg Value.bool (decide_eq_false g6)) rfl ?_)
              refine RunL.cons (Op1.assign (v := .bool _) rfl ?_)
              refine RunL.nil ?_
              refine run_ret1 Try.func22 rfl (RV.tmp (v := .bool _) rfl) ?_
              refine ⟨congrArg Value.bool ?_, hst.pure⟩
              first | (rw [decide_eq_decide]; omega) | exact (decide_eq_false (by omega)).symm | exact (decide_eq_true (by omega)).symm

theorem law_LayoutEnds (x : Int) (w : World) : Ret Try.prog 3 #[.int .u16 x] w (fun v w' => v = .bool true ∧ St w NoM [] [] w') := by
  refine Ret.enter (args := [.int .u16 x]) Try.func3 rfl rfl rfl ?_
  have hst := St.init w
  refine run_seq ?_
  refine run_region ?_
  refine RunL.cons (Op1.assign (v := .bool _) rfl ?_)
  refine RunL.nil ?_
  refine run_seq ?_
  refine run_region ?_
  refine RunL.cons (Op1.move (v := .int .u16 _) rfl ?_)
  refine RunL.cons (Op1.call1 (v1 := .int .u16 _) ent21 rfl rfl ((layout_ends _ _).mono fun v w hp => ?_))
  obtain ⟨rfl, hp⟩ := hp
  replace hst := hst.keepc hp
  clear hp
  refine RunL.cons (Op1.move (v := .int .u16 _) rfl ?_)
  refine RunL.cons (Op1.call1 (v1 := .int .u16 _) ent22 rfl rfl ((ref_ends _ _).mono fun v w hp => ?_))
  obtain ⟨rfl, hp⟩ := hp
  replace hst := hst.keepc hp
  clear hp
  refine RunL.cons (Op1.eqlB ty4 rfl rfl ?_)
  refine RunL.cons (Op1.assign (v := .bool _) rfl ?_)
  refine RunL.nil ?_
  refine run_ret1 Try.func3 rfl (RV.tmp (v := .bool _) rfl) ?_
  exact ⟨congrArg Value.bool (by simp), hst.pure⟩

def clampZ (x : Int) : Int := min (max x (-32768)) 32767
theorem clampZ_bd (x : Int) : -32768 ≤ clampZ x ∧ clampZ x ≤ 32767 := by unfold clampZ; omega
def InC (x : Int) : Prop := -32768 ≤ x ∧ x ≤ 32767
def sideZ (ax ay bx by_ px py : Int) : Int := (bx - ax) * (py - ay) - (by_ - ay) * (px - ax)
def topZ (ax ay bx by_ : Int) : Bool := decide (by_ < ay ∨ (by_ = ay ∧ ax < bx))
theorem edge_clamp (x : Int) (w : World) : Ret Try.prog 25 #[.int .i32 x] w (fun v w' => v = .int .i32 (clampZ x) ∧ St w NoM [] [] w') := by
  refine Ret.enter (args := [.int .i32 x]) Try.func25 rfl rfl rfl ?_
  have hst := St.init w
  refine run_seq ?_
  refine run_region ?_
  refine RunL.cons (Op1.assign (v := .int .i32 _) rfl ?_)
  refine RunL.nil ?_
  refine run_seq ?_
  refine run_region ?_
  refine RunL.cons (Op1.move (v := .int .i32 _) rfl ?_)
  refine RunL.cons (Op1.max2 rfl rfl ?_)
  refine RunL.cons (Op1.min2 rfl rfl ?_)
  refine RunL.cons (Op1.assign (v := .int .i32 _) rfl ?_)
  refine RunL.nil ?_
  refine run_ret1 Try.func25 rfl (RV.tmp (v := .int .i32 _) rfl) ?_
  refine ⟨congrArg _ ?_, hst.pure⟩
  unfold clampZ
  repeat split
  all_goals omega

theorem ref_clamp (x : Int) (w : World) : Ret Try.prog 26 #[.int .i32 x] w (fun v w' => v = .int .i32 (clampZ x) ∧ St w NoM [] [] w') := by
  refine Ret.enter (args := [.int .i32 x]) Try.func26 rfl rfl rfl ?_
  have hst := St.init w
  refine run_seq ?_
  refine run_region ?_
  refine RunL.cons (Op1.assign (v := .int .i32 _) rfl ?_)
  refine RunL.nil ?_
  refine run_seq ?_
  refine run_seq ?_
  refine run_region ?_
  refine RunL.cons (Op1.move (v := .int .i32 _) rfl ?_)
  refine RunL.cons (Op1.lss rfl rfl ?_)
  refine RunL.nil ?_
  refine run_cond_dec rfl (fun g1 => ?_) (fun g1 => ?_)
  · skip
    refine run_seq ?_
    refine run_region ?_
    refine RunL.cons (Op1.assign (v := .int .i32 _) rfl ?_)
    refine RunL.nil ?_
    refine run_ret1 Try.func26 rfl (RV.tmp (v := .int .i32 _) rfl) ?_
    exact ⟨congrArg _ (by unfold clampZ; omega), hst.pure⟩
  · skip
    refine run_skip ?_
    refine run_seq ?_
    refine run_seq ?_
    refine run_region ?_
    refine RunL.cons (Op1.move (v := .int .i32 _) rfl ?_)
    refine RunL.cons (Op1.gtr rfl rfl ?_)
    refine RunL.nil ?_
    refine run_cond_dec rfl (fun g2 => ?_) (fun g2 => ?_)
    · skip
      refine run_seq ?_
      refine run_region ?_
      refine RunL.cons (Op1.assign (v := .int .i32 _) rfl ?_)
      refine RunL.nil ?_
      refine run_ret1 Try.func26 rfl (RV.tmp (v := .int .i32 _) rfl) ?_
      exact ⟨congrArg _ (by unfold clampZ; omega), hst.pure⟩
    · skip
      refine run_skip ?_
      refine run_seq ?_
      refine run_region ?_
      refine RunL.cons (Op1.move (v := .int .i32 _) rfl ?_)
      refine RunL.cons (Op1.assign (v := .int .i32 _) rfl ?_)
      refine RunL.nil ?_
      refine run_ret1 Try.func26 rfl (RV.tmp (v := .int .i32 _) rfl) ?_
      exact ⟨congrArg _ (by unfold clampZ; omega), hst.pure⟩

theorem line_side (ax ay bx by_ px py : Int) (h : InC ax ∧ InC ay ∧ InC bx ∧ InC by_ ∧ InC px ∧ InC py) (w : World) : Ret Try.prog 53 #[.agg #[.int .i64 ax, .int .i64 ay, .int .i64 bx, .int .i64 by_], .agg #[.int .i64 px, .int .i64 py]] w (fun v w' => v = .int .i64 (sideZ ax ay bx by_ px py) ∧ St w NoM [] [] w') := by
  refine Ret.enter (args := [.agg #[.int .i64 ax, .int .i64 ay, .int .i64 bx, .int .i64 by_], .agg #[.int .i64 px, .int .i64 py]]) Try.func53 rfl rfl rfl ?_
  have hst := St.init w
  obtain ⟨⟨h1, h2⟩, ⟨h3, h4⟩, ⟨h5, h6⟩, ⟨h7, h8⟩, ⟨h9, h10⟩, h11, h12⟩ := h
  refine run_seq ?_
  refine run_region ?_
  refine RunL.cons (Op1.box (v := .agg #[.int .i64 _, .int .i64 _, .int .i64 _, .int .i64 _]) hst rfl rfl fun w b2 hst => ?_)
  refine RunL.cons (Op1.box (v := .agg #[.int .i64 _, .int .i64 _]) hst rfl rfl fun w b3 hst => ?_)
  refine RunL.cons (Op1.assign (v := .int .i64 _) rfl ?_)
  refine RunL.nil ?_
  refine run_seq ?_
  refine run_region ?_
  refine RunL.cons (Op1.indexArr ty79 ty76 rfl rfl (by decide) (by decide) ?_)
  refine RunL.cons (Op1.fieldAddr fld76_0 rfl ?_)
  refine RunL.cons (Op1.load1 (v := .int .i64 _) ty2 rfl rfl (hst.cellL (.tail _ (.head _)) rfl) ?_)
  refine RunL.cons (Op1.indexArr ty79 ty76 rfl rfl (by decide) (by decide) ?_)
  refine RunL.cons (Op1.fieldAddr fld76_0 rfl ?_)
  refine RunL.cons (Op1.load1 (v := .int .i64 _) ty2 rfl rfl (hst.cellL (.tail _ (.head _)) rfl) ?_)
  refine RunL.cons (Op1.subN rfl rfl rfl (wrap_i64 (by omega) (by omega)) ?_)
  refine RunL.cons (Op1.fieldAddr fld76_1 rfl ?_)
  refine RunL.cons (Op1.load1 (v := .int .i64 _) ty2 rfl rfl (hst.cellL (.head _) rfl) ?_)
  refine RunL.cons (Op1.indexArr ty79 ty76 rfl rfl (by decide) (by decide) ?_)
  refine RunL.cons (Op1.fieldAddr fld76_1 rfl ?_)
  refine RunL.cons (Op1.load1 (v := .int .i64 _) ty2 rfl rfl (hst.cellL (.tail _ (.head _)) rfl) ?_)
  refine RunL.cons (Op1.subN rfl rfl rfl (wrap_i64 (by omega) (by omega)) ?_)
  first | refine RunL.cons (Op1.mulN rfl rfl rfl (wrap_i64 (by omega) (by omega)) ?_) | refine RunL.cons (Op1.mulB rfl rfl (by omega) (by omega) (by omega) (by omega) (fun hm1 hm2 => ?_))
  refine RunL.cons (Op1.indexArr ty79 ty76 rfl rfl (by decide) (by decide) ?_)
  refine RunL.cons (Op1.fieldAddr fld76_1 rfl ?_)
  refine RunL.cons (Op1.load1 (v := .int .i64 _) ty2 rfl rfl (hst.cellL (.tail _ (.head _)) rfl) ?_)
  refine RunL.cons (Op1.indexArr ty79 ty76 rfl rfl (by decide) (by decide) ?_)
  refine RunL.cons (Op1.fieldAddr fld76_1 rfl ?_)
  refine RunL.cons (Op1.load1 (v := .int .i64 _) ty2 rfl rfl (hst.cellL (.tail _ (.head _)) rfl) ?_)
  refine RunL.cons (Op1.subN rfl rfl rfl (wrap_i64 (by omega) (by omega)) ?_)
  refine RunL.cons (Op1.fieldAddr fld76_0 rfl ?_)
  refine RunL.cons (Op1.load1 (v := .int .i64 _) ty2 rfl rfl (hst.cellL (.head _) rfl) ?_)
  refine RunL.cons (Op1.indexArr ty79 ty76 rfl rfl (by decide) (by decide) ?_)
  refine RunL.cons (Op1.fieldAddr fld76_0 rfl ?_)
  refine RunL.cons (Op1.load1 (v := .int .i64 _) ty2 rfl rfl (hst.cellL (.tail _ (.head _)) rfl) ?_)
  refine RunL.cons (Op1.subN rfl rfl rfl (wrap_i64 (by omega) (by omega)) ?_)
  first | refine RunL.cons (Op1.mulN rfl rfl rfl (wrap_i64 (by omega) (by omega)) ?_) | refine RunL.cons (Op1.mulB rfl rfl (by omega) (by omega) (by omega) (by omega) (fun hm3 hm4 => ?_))
  refine RunL.cons (Op1.subN rfl rfl rfl (wrap_i64 (by omega) (by omega)) ?_)
  refine RunL.cons (Op1.assign (v := .int .i64 _) rfl ?_)
  refine RunL.nil ?_
  refine run_ret1 Try.func53 rfl (RV.tmp (v := .int .i64 _) rfl) ?_
  exact ⟨rfl, hst.pure⟩

theorem line_top (ax ay bx by_ : Int) (w : World) : Ret Try.prog 55 #[.agg #[.int .i64 ax, .int .i64 ay, .int .i64 bx, .int .i64 by_]] w (fun v w' => v = .bool (topZ ax ay bx by_) ∧ St w NoM [] [] w') := by
  refine Ret.enter (args := [.agg #[.int .i64 ax, .int .i64 ay, .int .i64 bx, .int .i64 by_]]) Try.func55 rfl rfl rfl ?_
  have hst := St.init w
  refine run_seq ?_
  refine run_region ?_
  refine RunL.cons (Op1.box (v := .agg #[.int .i64 _, .int .i64 _, .int .i64 _, .int .i64 _]) hst rfl rfl fun w b1 hst => ?_)
  refine RunL.cons (Op1.assign (v := .bool _) rfl ?_)
  refine RunL.nil ?_
  refine run_seq ?_
  refine run_region ?_
  refine RunL.cons (Op1.indexArr ty79 ty76 rfl rfl (by decide) (by decide) ?_)
  refine RunL.cons (Op1.fieldAddr fld76_1 rfl ?_)
  refine RunL.cons (Op1.load1 (v := .int .i64 _) ty2 rfl rfl (hst.cellL (.head _) rfl) ?_)
  refine RunL.cons (Op1.indexArr ty79 ty76 rfl rfl (by decide) (by decide) ?_)
  refine RunL.cons (Op1.fieldAddr fld76_1 rfl ?_)
  refine RunL.cons (Op1.load1 (v := .int .i64 _) ty2 rfl rfl (hst.cellL (.head _) rfl) ?_)
  refine RunL.cons (Op1.lss rfl rfl ?_)
  refine RunL.cons (Op1.move (v := .bool _) rfl ?_)
  refine RunL.splitD (d := 10) rfl (fun g1 => ?_) (fun g1 => ?_)
  · skip
    refine RunL.omit (t := 10) rfl (congrArg Value.bool (decide_eq_true g1)) rfl ?_
    refine RunL.omit (t := 10) rfl (congrArg Value.bool (decide_eq_true g1)) rfl ?_
    refine RunL.omit (t := 10) rfl (congrArg Value.bool (decide_eq_true g1)) rfl ?_
    refine RunL.omit (t := 10) rfl (congrArg Value.bool (decide_eq_true g1)) rfl ?_
    refine RunL.omit (t := 10) rfl (congrArg Value.bool (decide_eq_true g1)) rfl ?_
    refine RunL.omit (t := 10) rfl (congrArg Value.bool (decide_eq_true g1)) rfl ?_
    refine RunL.omit (t := 10) rfl (congrArg Value.bool (decide_eq_true g1)) rfl ?_
    refine RunL.omit (t := 10) rfl (congrArg Value.bool (decide_eq_true g1)) rfl ?_
    refine RunL.omitU (t := 18) rfl rfl ?_
    refine RunL.omitU (t := 18) rfl rfl ?_
    refine RunL.omitU (t := 18) rfl rfl ?_
    refine RunL.omitU (t := 18) rfl rfl ?_
    refine RunL.omitU (t := 18) rfl rfl ?_
    refine RunL.omitU (t := 18) rfl rfl ?_
    refine RunL.omitU (t := 18) rfl rfl ?_
    refine RunL.omit (t := 10) rfl (congrArg Value.bool (decide_eq_true g1)) rfl ?_
    refine RunL.cons (Op1.pickT (u := .bool _) (congrArg Value.bool (decide_eq_true g1)) rfl ?_)
    refine RunL.cons (Op1.assign (v := .bool _) rfl ?_)
    refine RunL.nil ?_
    refine run_ret1 Try.func55 rfl (RV.tmp (v := .bool _) rfl) ?_
    refine ⟨congrArg Value.bool ?_, hst.pure⟩
    unfold topZ
    first | (rw [decide_eq_decide]; omega) | exact (decide_eq_false (by omega)).symm | exact (decide_eq_true (by omega)).symm
  · skip
    refine RunL.take (t := 10) rfl (congrArg Value.bool (decide_eq_false g1)) (Op1.indexArr ty79 ty76 rfl rfl (by decide) (by decide) ?_)
    refine RunL.take (t := 10) rfl (congrArg Value.bool (decide_eq_false g1)) (Op1.fieldAddr fld76_1 rfl ?_)
    refine RunL.take (t := 10) rfl (congrArg Value.bool (decide_eq_false g1)) (Op1.load1 (v := .int .i64 _) ty2 rfl rfl (hst.cellL (.head _) rfl) ?_)
    refine RunL.take (t := 10) rfl (congrArg Value.bool (decide_eq_false g1)) (Op1.indexArr ty79 ty76 rfl rfl (by decide) (by decide) ?_)
    refine RunL.take (t := 10) rfl (congrArg Value.bool (decide_eq_false g1)) (Op1.fieldAddr fld76_1 rfl ?_)
    refine RunL.take (t := 10) rfl (congrArg Value.bool (decide_eq_false g1)) (Op1.load1 (v := .int .i64 _) ty2 rfl rfl (hst.cellL (.head _) rfl) ?_)
    refine RunL.take (t := 10) rfl (congrArg Value.bool (decide_eq_false g1)) (Op1.eql rfl rfl ?_)
    refine RunL.take (t := 10) rfl (congrArg Value.bool (decide_eq_false g1)) (Op1.move (v := .bool _) rfl ?_)
    refine RunL.splitD (d := 18) rfl (fun g2 => ?_) (fun g2 => ?_)
    · skip
      refine RunL.take (t := 18) rfl (congrArg Value.bool (decide_eq_true g2)) (Op1.indexArr ty79 ty76 rfl rfl (by decide) (by decide) ?_)
      refine RunL.take (t := 18) rfl (congrArg Value.bool (decide_eq_true g2)) (Op1.fieldAddr fld76_0 rfl ?_)
      refine RunL.take (t := 18) rfl (congrArg Value.bool (decide_eq_true g2)) (Op1.load1 (v := .int .i64 _) ty2 rfl rfl (hst.cellL (.head _) rfl) ?_)
      refine RunL.take (t := 18) rfl (congrArg Value.bool (decide_eq_true g2)) (Op1.indexArr ty79 ty76 rfl rfl (by decide) (by decide) ?_)
      refine RunL.take (t := 18) rfl (congrArg Value.bool (decide_eq_true g2)) (Op1.fieldAddr fld76_0 rfl ?_)
      refine RunL.take (t := 18) rfl (congrArg Value.bool (decide_eq_true g2)) (Op1.load1 (v := .int .i64 _) ty2 rfl rfl (hst.cellL (.head _) rfl) ?_)
      refine RunL.take (t := 18) rfl (congrArg Value.bool (decide_eq_true g2)) (Op1.gtr rfl rfl ?_)
      refine RunL.take (t := 10) rfl (congrArg Value.bool (decide_eq_false g1)) (Op1.pickT (u := .bool _) (congrArg Value.bool (decide_eq_true g2)) rfl ?_)
      refine RunL.cons (Op1.pickF (u := .bool _) (congrArg Value.bool (decide_eq_false g1)) rfl ?_)
      refine RunL.cons (Op1.assign (v := .bool _) rfl ?_)
      refine RunL.nil ?_
      refine run_ret1 Try.func55 rfl (RV.tmp (v := .bool _) rfl) ?_
      refine ⟨congrArg Value.bool ?_, hst.pure⟩
      unfold topZ
      first | (rw [decide_eq_decide]; omega) | exact (decide_eq_false (by omega)).symm | exact (decide_eq_true (by omega)).symm
    · skip
      refine RunL.omit (t := 18) rfl (congrArg Value.bool (decide_eq_false g2)) rfl ?_
      refine RunL.omit (t := 18) rfl (congrArg Value.bool (decide_eq_false g2)) rfl ?_
      refine RunL.omit (t := 18) rfl (congrArg Value.bool (decide_eq_false g2)) rfl ?_
      refine RunL.omit (t := 18) rfl (congrArg Value.bool (decide_eq_false g2)) rfl ?_
      refine RunL.omit (t := 18) rfl (congrArg Value.bool (decide_eq_false g2)) rfl ?_
      refine RunL.omit (t := 18) rfl (congrArg Value.bool (decide_eq_false g2)) rfl ?_
      refine RunL.omit (t := 18) rfl (congrArg Value.bool (decide_eq_false g2)) rfl ?_
      refine RunL.take (t := 10) rfl (congrArg Value.bool (decide_eq_false g1)) (Op1.pickF (u := .bool _) (congrArg Value.bool (decide_eq_false g2)) rfl ?_)
      refine RunL.cons (Op1.pickF (u := .bool _) (congrArg Value.bool (decide_eq_false g1)) rfl ?_)
      refine RunL.cons (Op1.assign (v := .bool _) rfl ?_)
      refine RunL.nil ?_
      refine run_ret1 Try.func55 rfl (RV.tmp (v := .bool _) rfl) ?_
      refine ⟨congrArg Value.bool ?_, hst.pure⟩
      unfold topZ
      first | (rw [decide_eq_decide]; omega) | exact (decide_eq_false (by omega)).symm | exact (decide_eq_true (by omega)).symm

theorem edge_held (x y z : Int) (w : World) : Ret Try.prog 52 #[.agg #[.int .i32 x, .int .i32 y, .int .i32 z]] w (fun v w' => v = .agg #[.int .i64 (clampZ x), .int .i64 (clampZ y)] ∧ St w NoM [] [] w') := by
  refine Ret.enter (args := [.agg #[.int .i32 x, .int .i32 y, .int .i32 z]]) Try.func52 rfl rfl rfl ?_
  have hst := St.init w
  have hx := clampZ_bd x
  have hy := clampZ_bd y
  refine run_seq ?_
  refine run_region ?_
  refine RunL.cons (Op1.box (v := .agg #[.int .i32 _, .int .i32 _, .int .i32 _]) hst rfl rfl fun w b1 hst => ?_)
  refine RunL.cons (Op1.alloc hst ty76 fun w b2 hst => ?_)
  refine RunL.nil ?_
  refine run_seq ?_
  refine RunD.start [] hst (bs := [0, 1, 3, 7, 0, 16, 55, 119, 255, 511]) (ds := [some 3, some 4, some 5, some 6, some 7, some 8, some 9, some 10, some 11, none]) ⟨by kernel_rfl, by kernel_rfl, by kernel_rfl⟩ (fun tab1 => ?_)
  refine RunD.op (det _) tab1 1 (fun f' L' w' hc => Op1.fieldAddr fld25_0 (hc.old (v := .pointer (some ⟨_, _, none⟩)) rfl rfl rfl) ⟨[], ⟨rfl, rfl⟩, hc.st⟩) ?_
  refine RunD.op (det _) tab1 2 (fun f' L' w' hc => Op1.load1 (v := .int .i32 _) ty21 rfl (hc.det (j := 0) rfl rfl rfl rfl) (hc.st.cellL (List.mem_append_right _ (.tail _ (.head _))) rfl) ⟨[], ⟨rfl, rfl⟩, hc.st⟩) ?_
  refine RunD.op (det _) tab1 3 (fun f' L' w' hc => Op1.call1 (v1 := .int .i32 _) ent25 rfl (hc.det (j := 1) rfl rfl rfl rfl) ((edge_clamp _ _).mono fun v w hp => ⟨[], ⟨hp.1, rfl⟩, hc.st.keepc hp.2⟩)) ?_
  first | refine RunD.op (det _) tab1 4 (fun f' L' w' hc => Op1.convN ty21 ty2 (hc.det (j := 2) rfl rfl rfl rfl) (wrap_i64 (by omega) (by omega)) ⟨[], ⟨rfl, rfl⟩, hc.st⟩) ?_ | refine RunD.op (det _) tab1 4 (fun f' L' w' hc => Op1.conv ty21 ty2 (hc.det (j := 2) rfl rfl rfl rfl) ⟨[], ⟨rfl, rfl⟩, hc.st⟩) ?_
  refine RunD.op (det _) tab1 5 (fun f' L' w' hc => Op1.fieldAddr fld25_1 (hc.old (v := .pointer (some ⟨_, _, none⟩)) rfl rfl rfl) ⟨[], ⟨rfl, rfl⟩, hc.st⟩) ?_
  refine RunD.op (det _) tab1 6 (fun f' L' w' hc => Op1.load1 (v := .int .i32 _) ty21 rfl (hc.det (j := 4) rfl rfl rfl rfl) (hc.st.cellL (List.mem_append_right _ (.tail _ (.head _))) rfl) ⟨[], ⟨rfl, rfl⟩, hc.st⟩) ?_
  refine RunD.op (det _) tab1 7 (fun f' L' w' hc => Op1.call1 (v1 := .int .i32 _) ent25 rfl (hc.det (j := 5) rfl rfl rfl rfl) ((edge_clamp _ _).mono fun v w hp => ⟨[], ⟨hp.1, rfl⟩, hc.st.keepc hp.2⟩)) ?_
  first | refine RunD.op (det _) tab1 8 (fun f' L' w' hc => Op1.convN ty21 ty2 (hc.det (j := 6) rfl rfl rfl rfl) (wrap_i64 (by omega) (by omega)) ⟨[], ⟨rfl, rfl⟩, hc.st⟩) ?_ | refine RunD.op (det _) tab1 8 (fun f' L' w' hc => Op1.conv ty21 ty2 (hc.det (j := 6) rfl rfl rfl rfl) ⟨[], ⟨rfl, rfl⟩, hc.st⟩) ?_
  refine RunD.fin followsMixed tab1 hst rfl (fun f2 w R5 hs3 hd4 hr6 hst => ?_)
  obtain ⟨h3_, r0⟩ := hd4 0 3 rfl rfl
  obtain ⟨h4_, r1⟩ := hd4 1 4 rfl rfl
  obtain ⟨h5_, r2⟩ := hd4 2 5 rfl rfl
  obtain ⟨h6_, r3⟩ := hd4 3 6 rfl rfl
  obtain ⟨h7_, r4⟩ := hd4 4 7 rfl rfl
  obtain ⟨h8_, r5⟩ := hd4 5 8 rfl rfl
  obtain ⟨h9_, r6⟩ := hd4 6 9 rfl rfl
  obtain ⟨h10_, r7⟩ := hd4 7 10 rfl rfl
  simp only [show List.range 8 = [0, 1, 2, 3, 4, 5, 6, 7] from rfl, List.flatMap_cons, List.flatMap_nil, List.map_cons, List.map_nil, r0, r1, r2, r3, r4, r5, r6, r7, List.nil_append, List.append_nil, List.cons_append] at hst
  refine RunL.slots (sl := [(2, .pointer (some ⟨_, _, none⟩)), (6, .int .i64 _), (10, .int .i64 _)]) ⟨(hs3 2 rfl).trans rfl, h6_, h10_, trivial⟩ ?_
  clear hs3 hd4 hr6 tab1
  refine RunL.cons (Op1.buildStruct ty76 stf76 (.cons rfl (v := .int .i64 _) rfl rfl rfl rfl (by repeat (first | exact Put.nil | apply Put.put | apply Put.skip)) (.cons rfl (v := .int .i64 _) rfl rfl rfl rfl (by repeat (first | exact Put.nil | apply Put.put | apply Put.skip)) .nil)) ?_)
  refine RunL.cons (Op1.store (v := .agg #[.int .i64 _, .int .i64 _]) hst ty76 rfl rfl rfl rfl rfl (.here) (by repeat (first | exact Put.nil | apply Put.put | apply Put.skip)) fun w hst => ?_)
  refine RunL.nil ?_
  refine run_ret1 Try.func52 rfl (RV.cellA (vs := [.int .i64 _, .int .i64 _]) rfl ty76 rfl rfl (cells_of_obj (n := 2) (hst.objL (.head _)) _ rfl)) ?_
  exact ⟨rfl, hst.pure⟩

theorem edge_side (ax ay az bx by_ bz px py pz : Int) (w : World) : Ret Try.prog 27 #[.agg #[.int .i32 ax, .int .i32 ay, .int .i32 az], .agg #[.int .i32 bx, .int .i32 by_, .int .i32 bz], .agg #[.int .i32 px, .int .i32 py, .int .i32 pz]] w (fun v w' => v = .int .i64 (sideZ (clampZ ax) (clampZ ay) (clampZ bx) (clampZ by_) (clampZ px) (clampZ py)) ∧ St w NoM [] [] w') := by
  refine Ret.enter (args := [.agg #[.int .i32 ax, .int .i32 ay, .int .i32 az], .agg #[.int .i32 bx, .int .i32 by_, .int .i32 bz], .agg #[.int .i32 px, .int .i32 py, .int .i32 pz]]) Try.func27 rfl rfl rfl ?_
  have hst := St.init w
  refine run_seq ?_
  refine run_region ?_
  refine RunL.cons (Op1.box (v := .agg #[.int .i32 _, .int .i32 _, .int .i32 _]) hst rfl rfl fun w b3 hst => ?_)
  refine RunL.cons (Op1.box (v := .agg #[.int .i32 _, .int .i32 _, .int .i32 _]) hst rfl rfl fun w b4 hst => ?_)
  refine RunL.cons (Op1.box (v := .agg #[.int .i32 _, .int .i32 _, .int .i32 _]) hst rfl rfl fun w b5 hst => ?_)
  refine RunL.cons (Op1.assign (v := .int .i64 _) rfl ?_)
  refine RunL.nil ?_
  refine run_seq ?_
  refine RunD.start [] hst (bs := [0, 1, 0, 7, 15, 0, 47, 127, 255]) (ds := [some 7, some 8, some 9, some 10, some 11, some 12, some 13, some 14, some 6]) ⟨by kernel_rfl, by kernel_rfl, by kernel_rfl⟩ (fun tab1 => ?_)
  refine RunD.op (det _) tab1 1 (fun f' L' w' hc => Op1.loadA (vs := [.int .i32 _, .int .i32 _, .int .i32 _]) ty25 rfl (hc.old (v := .pointer (some ⟨_, _, none⟩)) rfl rfl rfl) rfl (cells_of_obj (n := 3) (hc.st.objL (List.mem_append_right _ (.tail _ (.tail _ (.head _))))) _ rfl) ⟨[], ⟨rfl, rfl⟩, hc.st⟩) ?_
  refine RunD.op (det _) tab1 2 (fun f' L' w' hc => Op1.call1 (v1 := .agg #[.int .i32 _, .int .i32 _, .int .i32 _]) ent52 rfl (hc.det (j := 0) rfl rfl rfl rfl) ((edge_held _ _ _ _).mono fun v w hp => ⟨[], ⟨hp.1, rfl⟩, hc.st.keepc hp.2⟩)) ?_
  refine RunD.op (det _) tab1 3 (fun f' L' w' hc => Op1.loadA (vs := [.int .i32 _, .int .i32 _, .int .i32 _]) ty25 rfl (hc.old (v := .pointer (some ⟨_, _, none⟩)) rfl rfl rfl) rfl (cells_of_obj (n := 3) (hc.st.objL (List.mem_append_right _ (.tail _ (.head _)))) _ rfl) ⟨[], ⟨rfl, rfl⟩, hc.st⟩) ?_
  refine RunD.op (det _) tab1 4 (fun f' L' w' hc => Op1.call1 (v1 := .agg #[.int .i32 _, .int .i32 _, .int .i32 _]) ent52 rfl (hc.det (j := 2) rfl rfl rfl rfl) ((edge_held _ _ _ _).mono fun v w hp => ⟨[], ⟨hp.1, rfl⟩, hc.st.keepc hp.2⟩)) ?_
  refine RunD.op (det _) tab1 5 (fun f' L' w' hc => Op1.buildArr ty79 ty76 (.cons rfl (v := .agg #[.int .i64 _, .int .i64 _]) (hc.det (j := 1) rfl rfl rfl rfl) rfl rfl rfl (by repeat (first | exact Put.nil | apply Put.put | apply Put.skip)) (.cons rfl (v := .agg #[.int .i64 _, .int .i64 _]) (hc.det (j := 3) rfl rfl rfl rfl) rfl rfl rfl (by repeat (first | exact Put.nil | apply Put.put | apply Put.skip)) .nil)) ⟨[], ⟨rfl, rfl⟩, hc.st⟩) ?_
  refine RunD.op (det _) tab1 6 (fun f' L' w' hc => Op1.loadA (vs := [.int .i32 _, .int .i32 _, .int .i32 _]) ty25 rfl (hc.old (v := .pointer (some ⟨_, _, none⟩)) rfl rfl rfl) rfl (cells_of_obj (n := 3) (hc.st.objL (List.mem_append_right _ (.head _))) _ rfl) ⟨[], ⟨rfl, rfl⟩, hc.st⟩) ?_
  refine RunD.op (det _) tab1 7 (fun f' L' w' hc => Op1.call1 (v1 := .agg #[.int .i32 _, .int .i32 _, .int .i32 _]) ent52 rfl (hc.det (j := 5) rfl rfl rfl rfl) ((edge_held _ _ _ _).mono fun v w hp => ⟨[], ⟨hp.1, rfl⟩, hc.st.keepc hp.2⟩)) ?_
  refine RunD.fin followsMixed tab1 hst rfl (fun f2 w R5 hs3 hd4 hr6 hst => ?_)
  obtain ⟨h7_, r0⟩ := hd4 0 7 rfl rfl
  obtain ⟨h8_, r1⟩ := hd4 1 8 rfl rfl
  obtain ⟨h9_, r2⟩ := hd4 2 9 rfl rfl
  obtain ⟨h10_, r3⟩ := hd4 3 10 rfl rfl
  obtain ⟨h11_, r4⟩ := hd4 4 11 rfl rfl
  obtain ⟨h12_, r5⟩ := hd4 5 12 rfl rfl
  obtain ⟨h13_, r6⟩ := hd4 6 13 rfl rfl
  simp only [show List.range 7 = [0, 1, 2, 3, 4, 5, 6] from rfl, List.flatMap_cons, List.flatMap_nil, List.map_cons, List.map_nil, r0, r1, r2, r3, r4, r5, r6, List.nil_append, List.append_nil, List.cons_append] at hst
  refine RunL.slots (sl := [(11, .agg #[.int .i64 _, .int .i64 _, .int .i64 _, .int .i64 _]), (13, .agg #[.int .i64 _, .int .i64 _])]) ⟨h11_, h13_, trivial⟩ ?_
  clear hs3 hd4 hr6 tab1
  refine RunL.cons (Op1.call2 (v1 := .agg #[.int .i64 _, .int .i64 _, .int .i64 _, .int .i64 _]) (v2 := .agg #[.int .i64 _, .int .i64 _]) ent53 rfl rfl rfl ((line_side _ _ _ _ _ _ (by have := clampZ_bd; simp [InC, this]) _).mono fun v w hp => ?_))
  obtain ⟨rfl, hp⟩ := hp
  replace hst := hst.keepc hp
  clear hp
  refine RunL.cons (Op1.assign (v := .int .i64 _) rfl ?_)
  refine RunL.nil ?_
  refine run_ret1 Try.func27 rfl (RV.tmp (v := .int .i64 _) rfl) ?_
  exact ⟨rfl, hst.pure⟩

theorem edge_top (ax ay az bx by_ bz : Int) (w : World) : Ret Try.prog 29 #[.agg #[.int .i32 ax, .int .i32 ay, .int .i32 az], .agg #[.int .i32 bx, .int .i32 by_, .int .i32 bz]] w (fun v w' => v = .bool (topZ (clampZ ax) (clampZ ay) (clampZ bx) (clampZ by_)) ∧ St w NoM [] [] w') := by
  refine Ret.enter (args := [.agg #[.int .i32 ax, .int .i32 ay, .int .i32 az], .agg #[.int .i32 bx, .int .i32 by_, .int .i32 bz]]) Try.func29 rfl rfl rfl ?_
  have hst := St.init w
  refine run_seq ?_
  refine run_region ?_
  refine RunL.cons (Op1.box (v := .agg #[.int .i32 _, .int .i32 _, .int .i32 _]) hst rfl rfl fun w b2 hst => ?_)
  refine RunL.cons (Op1.box (v := .agg #[.int .i32 _, .int .i32 _, .int .i32 _]) hst rfl rfl fun w b3 hst => ?_)
  refine RunL.cons (Op1.assign (v := .bool _) rfl ?_)
  refine RunL.nil ?_
  refine run_seq ?_
  refine RunD.start [] hst (bs := [0, 1, 0, 7, 15, 31, 63]) (ds := [some 5, some 6, some 7, some 8, some 9, some 10, some 4]) ⟨by kernel_rfl, by kernel_rfl, by kernel_rfl⟩ (fun tab1 => ?_)
  refine RunD.op (det _) tab1 1 (fun f' L' w' hc => Op1.loadA (vs := [.int .i32 _, .int .i32 _, .int .i32 _]) ty25 rfl (hc.old (v := .pointer (some ⟨_, _, none⟩)) rfl rfl rfl) rfl (cells_of_obj (n := 3) (hc.st.objL (List.mem_append_right _ (.tail _ (.head _)))) _ rfl) ⟨[], ⟨rfl, rfl⟩, hc.st⟩) ?_
  refine RunD.op (det _) tab1 2 (fun f' L' w' hc => Op1.call1 (v1 := .agg #[.int .i32 _, .int .i32 _, .int .i32 _]) ent52 rfl (hc.det (j := 0) rfl rfl rfl rfl) ((edge_held _ _ _ _).mono fun v w hp => ⟨[], ⟨hp.1, rfl⟩, hc.st.keepc hp.2⟩)) ?_
  refine RunD.op (det _) tab1 3 (fun f' L' w' hc => Op1.loadA (vs := [.int .i32 _, .int .i32 _, .int .i32 _]) ty25 rfl (hc.old (v := .pointer (some ⟨_, _, none⟩)) rfl rfl rfl) rfl (cells_of_obj (n := 3) (hc.st.objL (List.mem_append_right _ (.head _))) _ rfl) ⟨[], ⟨rfl, rfl⟩, hc.st⟩) ?_
  refine RunD.fin followsMixed tab1 hst rfl (fun f2 w R5 hs3 hd4 hr6 hst => ?_)
  obtain ⟨h5_, r0⟩ := hd4 0 5 rfl rfl
  obtain ⟨h6_, r1⟩ := hd4 1 6 rfl rfl
  obtain ⟨h7_, r2⟩ := hd4 2 7 rfl rfl
  simp only [show List.range 3 = [0, 1, 2] from rfl, List.flatMap_cons, List.flatMap_nil, List.map_cons, List.map_nil, r0, r1, r2, List.nil_append, List.append_nil, List.cons_append] at hst
  refine RunL.slots (sl := [(6, .agg #[.int .i64 _, .int .i64 _]), (7, .agg #[.int .i32 _, .int .i32 _, .int .i32 _])]) ⟨h6_, h7_, trivial⟩ ?_
  clear hs3 hd4 hr6 tab1
  refine RunL.cons (Op1.call1 (v1 := .agg #[.int .i32 _, .int .i32 _, .int .i32 _]) ent52 rfl rfl ((edge_held _ _ _ _).mono fun v w hp => ?_))
  obtain ⟨rfl, hp⟩ := hp
  replace hst := hst.keepc hp
  clear hp
  refine RunL.cons (Op1.buildArr ty79 ty76 (.cons rfl (v := .agg #[.int .i64 _, .int .i64 _]) rfl rfl rfl rfl (by repeat (first | exact Put.nil | apply Put.put | apply Put.skip)) (.cons rfl (v := .agg #[.int .i64 _, .int .i64 _]) rfl rfl rfl rfl (by repeat (first | exact Put.nil | apply Put.put | apply Put.skip)) .nil)) ?_)
  refine RunL.cons (Op1.call1 (v1 := .agg #[.int .i64 _, .int .i64 _, .int .i64 _, .int .i64 _]) ent55 rfl rfl ((line_top _ _ _ _ _).mono fun v w hp => ?_))
  obtain ⟨rfl, hp⟩ := hp
  replace hst := hst.keepc hp
  clear hp
  refine RunL.cons (Op1.assign (v := .bool _) rfl ?_)
  refine RunL.nil ?_
  refine run_ret1 Try.func29 rfl (RV.tmp (v := .bool _) rfl) ?_
  exact ⟨rfl, hst.pure⟩

theorem edge_area (ax ay az bx by_ bz px py pz : Int) (w : World) : Ret Try.prog 23 #[.agg #[.int .i32 ax, .int .i32 ay, .int .i32 az, .int .i32 bx, .int .i32 by_, .int .i32 bz, .int .i32 px, .int .i32 py, .int .i32 pz]] w (fun v w' => v = .int .i64 (sideZ (clampZ ax) (clampZ ay) (clampZ bx) (clampZ by_) (clampZ px) (clampZ py)) ∧ St w NoM [] [] w') := by
  refine Ret.enter (args := [.agg #[.int .i32 ax, .int .i32 ay, .int .i32 az, .int .i32 bx, .int .i32 by_, .int .i32 bz, .int .i32 px, .int .i32 py, .int .i32 pz]]) Try.func23 rfl rfl rfl ?_
  have hst := St.init w
  refine run_seq ?_
  refine run_region ?_
  refine RunL.cons (Op1.box (v := .agg #[.int .i32 _, .int .i32 _, .int .i32 _, .int .i32 _, .int .i32 _, .int .i32 _, .int .i32 _, .int .i32 _, .int .i32 _]) hst rfl rfl fun w b1 hst => ?_)
  refine RunL.cons (Op1.assign (v := .int .i64 _) rfl ?_)
  refine RunL.nil ?_
  refine run_seq ?_
  refine run_region ?_
  refine RunL.cons (Op1.indexArr ty27 ty25 rfl rfl (by decide) (by decide) ?_)
  refine RunL.cons (Op1.loadA (vs := [.int .i32 _, .int .i32 _, .int .i32 _]) ty25 rfl rfl rfl (cells_of_obj (n := 3) (hst.objL (.head _)) _ rfl) ?_)
  refine RunL.cons (Op1.indexArr ty27 ty25 rfl rfl (by decide) (by decide) ?_)
  refine RunL.cons (Op1.loadA (vs := [.int .i32 _, .int .i32 _, .int .i32 _]) ty25 rfl rfl rfl (cells_of_obj (n := 3) (hst.objL (.head _)) _ rfl) ?_)
  refine RunL.cons (Op1.indexArr ty27 ty25 rfl rfl (by decide) (by decide) ?_)
  refine RunL.cons (Op1.loadA (vs := [.int .i32 _, .int .i32 _, .int .i32 _]) ty25 rfl rfl rfl (cells_of_obj (n := 3) (hst.objL (.head _)) _ rfl) ?_)
  refine RunL.cons (Op1.call3 (v1 := .agg #[.int .i32 _, .int .i32 _, .int .i32 _]) (v2 := .agg #[.int .i32 _, .int .i32 _, .int .i32 _]) (v3 := .agg #[.int .i32 _, .int .i32 _, .int .i32 _]) ent27 rfl rfl rfl rfl ((edge_side _ _ _ _ _ _ _ _ _ _).mono fun v w hp => ?_))
  obtain ⟨rfl, hp⟩ := hp
  replace hst := hst.keepc hp
  clear hp
  refine RunL.cons (Op1.assign (v := .int .i64 _) rfl ?_)
  refine RunL.nil ?_
  refine run_ret1 Try.func23 rfl (RV.tmp (v := .int .i64 _) rfl) ?_
  exact ⟨rfl, hst.pure⟩

theorem atZ_eq (ax ay bx by_ x y : Int) : bx * y - by_ * x + ax * by_ - ay * bx + ay * x - ax * y = sideZ ax ay bx by_ x y := by
  unfold sideZ
  simp only [Int.sub_mul, Int.mul_sub]
  rw [Int.mul_comm by_ ax, Int.mul_comm bx ay, Int.mul_comm ay ax]
  omega
theorem ref_at (ax ay az bx by_ bz x y : Int) (hx : -40000 ≤ x ∧ x ≤ 40000) (hy : -40000 ≤ y ∧ y ≤ 40000) (w : World) : Ret Try.prog 54 #[.agg #[.int .i32 ax, .int .i32 ay, .int .i32 az], .agg #[.int .i32 bx, .int .i32 by_, .int .i32 bz], .int .i64 x, .int .i64 y] w (fun v w' => v = .int .i64 (sideZ (clampZ ax) (clampZ ay) (clampZ bx) (clampZ by_) x y) ∧ St w NoM [] [] w') := by
  refine Ret.enter (args := [.agg #[.int .i32 ax, .int .i32 ay, .int .i32 az], .agg #[.int .i32 bx, .int .i32 by_, .int .i32 bz], .int .i64 x, .int .i64 y]) Try.func54 rfl rfl rfl ?_
  have hst := St.init w
  have hax := clampZ_bd ax
  have hay := clampZ_bd ay
  have hbx := clampZ_bd bx
  have hby := clampZ_bd by_
  refine run_seq ?_
  refine run_region ?_
  refine RunL.cons (Op1.box (v := .agg #[.int .i32 _, .int .i32 _, .int .i32 _]) hst rfl rfl fun w b4 hst => ?_)
  refine RunL.cons (Op1.box (v := .agg #[.int .i32 _, .int .i32 _, .int .i32 _]) hst rfl rfl fun w b5 hst => ?_)
  refine RunL.cons (Op1.assign (v := .int .i64 _) rfl ?_)
  refine RunL.nil ?_
  refine run_seq ?_
  refine run_region ?_
  refine RunL.cons (Op1.fieldAddr fld25_0 rfl ?_)
  refine RunL.cons (Op1.load1 (v := .int .i32 _) ty21 rfl rfl (hst.cellL (.tail _ (.head _)) rfl) ?_)
  refine RunL.cons (Op1.call1 (v1 := .int .i32 _) ent26 rfl rfl ((ref_clamp _ _).mono fun v w hp => ?_))
  obtain ⟨rfl, hp⟩ := hp
  replace hst := hst.keepc hp
  clear hp
  first | refine RunL.cons (Op1.convN ty21 ty2 rfl (wrap_i64 (by omega) (by omega)) ?_) | refine RunL.cons (Op1.conv ty21 ty2 rfl ?_)
  refine RunL.cons (Op1.assign (v := .int .i64 _) rfl ?_)
  refine RunL.nil ?_
  refine run_seq ?_
  refine run_region ?_
  refine RunL.cons (Op1.fieldAddr fld25_1 rfl ?_)
  refine RunL.cons (Op1.load1 (v := .int .i32 _) ty21 rfl rfl (hst.cellL (.tail _ (.head _)) rfl) ?_)
  refine RunL.cons (Op1.call1 (v1 := .int .i32 _) ent26 rfl rfl ((ref_clamp _ _).mono fun v w hp => ?_))
  obtain ⟨rfl, hp⟩ := hp
  replace hst := hst.keepc hp
  clear hp
  first | refine RunL.cons (Op1.convN ty21 ty2 rfl (wrap_i64 (by omega) (by omega)) ?_) | refine RunL.cons (Op1.conv ty21 ty2 rfl ?_)
  refine RunL.cons (Op1.assign (v := .int .i64 _) rfl ?_)
  refine RunL.nil ?_
  refine run_seq ?_
  refine run_region ?_
  refine RunL.cons (Op1.fieldAddr fld25_0 rfl ?_)
  refine RunL.cons (Op1.load1 (v := .int .i32 _) ty21 rfl rfl (hst.cellL (.head _) rfl) ?_)
  refine RunL.cons (Op1.call1 (v1 := .int .i32 _) ent26 rfl rfl ((ref_clamp _ _).mono fun v w hp => ?_))
  obtain ⟨rfl, hp⟩ := hp
  replace hst := hst.keepc hp
  clear hp
  first | refine RunL.cons (Op1.convN ty21 ty2 rfl (wrap_i64 (by omega) (by omega)) ?_) | refine RunL.cons (Op1.conv ty21 ty2 rfl ?_)
  refine RunL.cons (Op1.assign (v := .int .i64 _) rfl ?_)
  refine RunL.nil ?_
  refine run_seq ?_
  refine run_region ?_
  refine RunL.cons (Op1.fieldAddr fld25_1 rfl ?_)
  refine RunL.cons (Op1.load1 (v := .int .i32 _) ty21 rfl rfl (hst.cellL (.head _) rfl) ?_)
  refine RunL.cons (Op1.call1 (v1 := .int .i32 _) ent26 rfl rfl ((ref_clamp _ _).mono fun v w hp => ?_))
  obtain ⟨rfl, hp⟩ := hp
  replace hst := hst.keepc hp
  clear hp
  first | refine RunL.cons (Op1.convN ty21 ty2 rfl (wrap_i64 (by omega) (by omega)) ?_) | refine RunL.cons (Op1.conv ty21 ty2 rfl ?_)
  refine RunL.cons (Op1.assign (v := .int .i64 _) rfl ?_)
  refine RunL.nil ?_
  refine run_seq ?_
  refine run_region ?_
  refine RunL.cons (Op1.move (v := .int .i64 _) rfl ?_)
  refine RunL.cons (Op1.move (v := .int .i64 _) rfl ?_)
  first | refine RunL.cons (Op1.mulN rfl rfl rfl (wrap_i64 (by omega) (by omega)) ?_) | refine RunL.cons (Op1.mulB rfl rfl (by omega) (by omega) (by omega) (by omega) (fun hm1 hm2 => ?_))
  refine RunL.cons (Op1.move (v := .int .i64 _) rfl ?_)
  refine RunL.cons (Op1.move (v := .int .i64 _) rfl ?_)
  first | refine RunL.cons (Op1.mulN rfl rfl rfl (wrap_i64 (by omega) (by omega)) ?_) | refine RunL.cons (Op1.mulB rfl rfl (by omega) (by omega) (by omega) (by omega) (fun hm3 hm4 => ?_))
  refine RunL.cons (Op1.subN rfl rfl rfl (wrap_i64 (by omega) (by omega)) ?_)
  refine RunL.cons (Op1.move (v := .int .i64 _) rfl ?_)
  refine RunL.cons (Op1.move (v := .int .i64 _) rfl ?_)
  first | refine RunL.cons (Op1.mulN rfl rfl rfl (wrap_i64 (by omega) (by omega)) ?_) | refine RunL.cons (Op1.mulB rfl rfl (by omega) (by omega) (by omega) (by omega) (fun hm5 hm6 => ?_))
  refine RunL.cons (Op1.addN rfl rfl rfl (wrap_i64 (by omega) (by omega)) ?_)
  refine RunL.cons (Op1.move (v := .int .i64 _) rfl ?_)
  refine RunL.cons (Op1.move (v := .int .i64 _) rfl ?_)
  first | refine RunL.cons (Op1.mulN rfl rfl rfl (wrap_i64 (by omega) (by omega)) ?_) | refine RunL.cons (Op1.mulB rfl rfl (by omega) (by omega) (by omega) (by omega) (fun hm7 hm8 => ?_))
  refine RunL.cons (Op1.subN rfl rfl rfl (wrap_i64 (by omega) (by omega)) ?_)
  refine RunL.cons (Op1.move (v := .int .i64 _) rfl ?_)
  refine RunL.cons (Op1.move (v := .int .i64 _) rfl ?_)
  first | refine RunL.cons (Op1.mulN rfl rfl rfl (wrap_i64 (by omega) (by omega)) ?_) | refine RunL.cons (Op1.mulB rfl rfl (by omega) (by omega) (by omega) (by omega) (fun hm9 hm10 => ?_))
  refine RunL.cons (Op1.addN rfl rfl rfl (wrap_i64 (by omega) (by omega)) ?_)
  refine RunL.cons (Op1.move (v := .int .i64 _) rfl ?_)
  refine RunL.cons (Op1.move (v := .int .i64 _) rfl ?_)
  first | refine RunL.cons (Op1.mulN rfl rfl rfl (wrap_i64 (by omega) (by omega)) ?_) | refine RunL.cons (Op1.mulB rfl rfl (by omega) (by omega) (by omega) (by omega) (fun hm11 hm12 => ?_))
  refine RunL.cons (Op1.subN rfl rfl rfl (wrap_i64 (by omega) (by omega)) ?_)
  refine RunL.cons (Op1.assign (v := .int .i64 _) rfl ?_)
  refine RunL.nil ?_
  refine run_ret1 Try.func54 rfl (RV.tmp (v := .int .i64 _) rfl) ?_
  exact ⟨congrArg _ (atZ_eq _ _ _ _ _ _), hst.pure⟩

theorem ref_side (ax ay az bx by_ bz px py pz : Int) (w : World) : Ret Try.prog 28 #[.agg #[.int .i32 ax, .int .i32 ay, .int .i32 az], .agg #[.int .i32 bx, .int .i32 by_, .int .i32 bz], .agg #[.int .i32 px, .int .i32 py, .int .i32 pz]] w (fun v w' => v = .int .i64 (sideZ (clampZ ax) (clampZ ay) (clampZ bx) (clampZ by_) (clampZ px) (clampZ py)) ∧ St w NoM [] [] w') := by
  refine Ret.enter (args := [.agg #[.int .i32 ax, .int .i32 ay, .int .i32 az], .agg #[.int .i32 bx, .int .i32 by_, .int .i32 bz], .agg #[.int .i32 px, .int .i32 py, .int .i32 pz]]) Try.func28 rfl rfl rfl ?_
  have hst := St.init w
  have hpx := clampZ_bd px
  have hpy := clampZ_bd py
  refine run_seq ?_
  refine run_region ?_
  refine RunL.cons (Op1.box (v := .agg #[.int .i32 _, .int .i32 _, .int .i32 _]) hst rfl rfl fun w b3 hst => ?_)
  refine RunL.cons (Op1.box (v := .agg #[.int .i32 _, .int .i32 _, .int .i32 _]) hst rfl rfl fun w b4 hst => ?_)
  refine RunL.cons (Op1.box (v := .agg #[.int .i32 _, .int .i32 _, .int .i32 _]) hst rfl rfl fun w b5 hst => ?_)
  refine RunL.cons (Op1.assign (v := .int .i64 _) rfl ?_)
  refine RunL.nil ?_
  refine run_seq ?_
  refine RunD.start [] hst (bs := [0, 0, 0, 4, 12, 28, 0, 64, 220, 476, 1023, 2047]) (ds := [some 7, some 8, some 9, some 10, some 11, some 12, some 13, some 14, some 15, some 16, some 17, some 6]) ⟨by kernel_rfl, by kernel_rfl, by kernel_rfl⟩ (fun tab1 => ?_)
  refine RunD.op (det _) tab1 1 (fun f' L' w' hc => Op1.loadA (vs := [.int .i32 _, .int .i32 _, .int .i32 _]) ty25 rfl (hc.old (v := .pointer (some ⟨_, _, none⟩)) rfl rfl rfl) rfl (cells_of_obj (n := 3) (hc.st.objL (List.mem_append_right _ (.tail _ (.tail _ (.head _))))) _ rfl) ⟨[], ⟨rfl, rfl⟩, hc.st⟩) ?_
  refine RunD.op (det _) tab1 2 (fun f' L' w' hc => Op1.loadA (vs := [.int .i32 _, .int .i32 _, .int .i32 _]) ty25 rfl (hc.old (v := .pointer (some ⟨_, _, none⟩)) rfl rfl rfl) rfl (cells_of_obj (n := 3) (hc.st.objL (List.mem_append_right _ (.tail _ (.head _)))) _ rfl) ⟨[], ⟨rfl, rfl⟩, hc.st⟩) ?_
  refine RunD.op (det _) tab1 3 (fun f' L' w' hc => Op1.fieldAddr fld25_0 (hc.old (v := .pointer (some ⟨_, _, none⟩)) rfl rfl rfl) ⟨[], ⟨rfl, rfl⟩, hc.st⟩) ?_
  refine RunD.op (det _) tab1 4 (fun f' L' w' hc => Op1.load1 (v := .int .i32 _) ty21 rfl (hc.det (j := 2) rfl rfl rfl rfl) (hc.st.cellL (List.mem_append_right _ (.head _)) rfl) ⟨[], ⟨rfl, rfl⟩, hc.st⟩) ?_
  refine RunD.op (det _) tab1 5 (fun f' L' w' hc => Op1.call1 (v1 := .int .i32 _) ent26 rfl (hc.det (j := 3) rfl rfl rfl rfl) ((ref_clamp _ _).mono fun v w hp => ⟨[], ⟨hp.1, rfl⟩, hc.st.keepc hp.2⟩)) ?_
  first | refine RunD.op (det _) tab1 6 (fun f' L' w' hc => Op1.convN ty21 ty2 (hc.det (j := 4) rfl rfl rfl rfl) (wrap_i64 (by omega) (by omega)) ⟨[], ⟨rfl, rfl⟩, hc.st⟩) ?_ | refine RunD.op (det _) tab1 6 (fun f' L' w' hc => Op1.conv ty21 ty2 (hc.det (j := 4) rfl rfl rfl rfl) ⟨[], ⟨rfl, rfl⟩, hc.st⟩) ?_
  refine RunD.op (det _) tab1 7 (fun f' L' w' hc => Op1.fieldAddr fld25_1 (hc.old (v := .pointer (some ⟨_, _, none⟩)) rfl rfl rfl) ⟨[], ⟨rfl, rfl⟩, hc.st⟩) ?_
  refine RunD.op (det _) tab1 8 (fun f' L' w' hc => Op1.load1 (v := .int .i32 _) ty21 rfl (hc.det (j := 6) rfl rfl rfl rfl) (hc.st.cellL (List.mem_append_right _ (.head _)) rfl) ⟨[], ⟨rfl, rfl⟩, hc.st⟩) ?_
  refine RunD.op (det _) tab1 9 (fun f' L' w' hc => Op1.call1 (v1 := .int .i32 _) ent26 rfl (hc.det (j := 7) rfl rfl rfl rfl) ((ref_clamp _ _).mono fun v w hp => ⟨[], ⟨hp.1, rfl⟩, hc.st.keepc hp.2⟩)) ?_
  first | refine RunD.op (det _) tab1 10 (fun f' L' w' hc => Op1.convN ty21 ty2 (hc.det (j := 8) rfl rfl rfl rfl) (wrap_i64 (by omega) (by omega)) ⟨[], ⟨rfl, rfl⟩, hc.st⟩) ?_ | refine RunD.op (det _) tab1 10 (fun f' L' w' hc => Op1.conv ty21 ty2 (hc.det (j := 8) rfl rfl rfl rfl) ⟨[], ⟨rfl, rfl⟩, hc.st⟩) ?_
  refine RunD.fin followsMixed tab1 hst rfl (fun f2 w R5 hs3 hd4 hr6 hst => ?_)
  obtain ⟨h7_, r0⟩ := hd4 0 7 rfl rfl
  obtain ⟨h8_, r1⟩ := hd4 1 8 rfl rfl
  obtain ⟨h9_, r2⟩ := hd4 2 9 rfl rfl
  obtain ⟨h10_, r3⟩ := hd4 3 10 rfl rfl
  obtain ⟨h11_, r4⟩ := hd4 4 11 rfl rfl
  obtain ⟨h12_, r5⟩ := hd4 5 12 rfl rfl
  obtain ⟨h13_, r6⟩ := hd4 6 13 rfl rfl
  obtain ⟨h14_, r7⟩ := hd4 7 14 rfl rfl
  obtain ⟨h15_, r8⟩ := hd4 8 15 rfl rfl
  obtain ⟨h16_, r9⟩ := hd4 9 16 rfl rfl
  simp only [show List.range 10 = [0, 1, 2, 3, 4, 5, 6, 7, 8, 9] from rfl, List.flatMap_cons, List.flatMap_nil, List.map_cons, List.map_nil, r0, r1, r2, r3, r4, r5, r6, r7, r8, r9, List.nil_append, List.append_nil, List.cons_append] at hst
  refine RunL.slots (sl := [(7, .agg #[.int .i32 _, .int .i32 _, .int .i32 _]), (8, .agg #[.int .i32 _, .int .i32 _, .int .i32 _]), (12, .int .i64 _), (16, .int .i64 _)]) ⟨h7_, h8_, h12_, h16_, trivial⟩ ?_
  clear hs3 hd4 hr6 tab1
  refine RunL.cons (Op1.call4 (v1 := .agg #[.int .i32 _, .int .i32 _, .int .i32 _]) (v2 := .agg #[.int .i32 _, .int .i32 _, .int .i32 _]) (v3 := .int .i64 _) (v4 := .int .i64 _) ent54 rfl rfl rfl rfl rfl ((ref_at _ _ _ _ _ _ _ _ (by omega) (by omega) _).mono fun v w hp => ?_))
  obtain ⟨rfl, hp⟩ := hp
  replace hst := hst.keepc hp
  clear hp
  refine RunL.cons (Op1.assign (v := .int .i64 _) rfl ?_)
  refine RunL.nil ?_
  refine run_ret1 Try.func28 rfl (RV.tmp (v := .int .i64 _) rfl) ?_
  exact ⟨rfl, hst.pure⟩

theorem ref_area (ax ay az bx by_ bz px py pz : Int) (w : World) : Ret Try.prog 24 #[.agg #[.int .i32 ax, .int .i32 ay, .int .i32 az, .int .i32 bx, .int .i32 by_, .int .i32 bz, .int .i32 px, .int .i32 py, .int .i32 pz]] w (fun v w' => v = .int .i64 (sideZ (clampZ ax) (clampZ ay) (clampZ bx) (clampZ by_) (clampZ px) (clampZ py)) ∧ St w NoM [] [] w') := by
  refine Ret.enter (args := [.agg #[.int .i32 ax, .int .i32 ay, .int .i32 az, .int .i32 bx, .int .i32 by_, .int .i32 bz, .int .i32 px, .int .i32 py, .int .i32 pz]]) Try.func24 rfl rfl rfl ?_
  have hst := St.init w
  refine run_seq ?_
  refine run_region ?_
  refine RunL.cons (Op1.box (v := .agg #[.int .i32 _, .int .i32 _, .int .i32 _, .int .i32 _, .int .i32 _, .int .i32 _, .int .i32 _, .int .i32 _, .int .i32 _]) hst rfl rfl fun w b1 hst => ?_)
  refine RunL.cons (Op1.assign (v := .int .i64 _) rfl ?_)
  refine RunL.nil ?_
  refine run_seq ?_
  refine run_region ?_
  refine RunL.cons (Op1.indexArr ty27 ty25 rfl rfl (by decide) (by decide) ?_)
  refine RunL.cons (Op1.loadA (vs := [.int .i32 _, .int .i32 _, .int .i32 _]) ty25 rfl rfl rfl (cells_of_obj (n := 3) (hst.objL (.head _)) _ rfl) ?_)
  refine RunL.cons (Op1.indexArr ty27 ty25 rfl rfl (by decide) (by decide) ?_)
  refine RunL.cons (Op1.loadA (vs := [.int .i32 _, .int .i32 _, .int .i32 _]) ty25 rfl rfl rfl (cells_of_obj (n := 3) (hst.objL (.head _)) _ rfl) ?_)
  refine RunL.cons (Op1.indexArr ty27 ty25 rfl rfl (by decide) (by decide) ?_)
  refine RunL.cons (Op1.loadA (vs := [.int .i32 _, .int .i32 _, .int .i32 _]) ty25 rfl rfl rfl (cells_of_obj (n := 3) (hst.objL (.head _)) _ rfl) ?_)
  refine RunL.cons (Op1.call3 (v1 := .agg #[.int .i32 _, .int .i32 _, .int .i32 _]) (v2 := .agg #[.int .i32 _, .int .i32 _, .int .i32 _]) (v3 := .agg #[.int .i32 _, .int .i32 _, .int .i32 _]) ent28 rfl rfl rfl rfl ((ref_side _ _ _ _ _ _ _ _ _ _).mono fun v w hp => ?_))
  obtain ⟨rfl, hp⟩ := hp
  replace hst := hst.keepc hp
  clear hp
  refine RunL.cons (Op1.assign (v := .int .i64 _) rfl ?_)
  refine RunL.nil ?_
  refine run_ret1 Try.func24 rfl (RV.tmp (v := .int .i64 _) rfl) ?_
  exact ⟨rfl, hst.pure⟩

theorem ref_top (ax ay az bx by_ bz : Int) (w : World) : Ret Try.prog 30 #[.agg #[.int .i32 ax, .int .i32 ay, .int .i32 az], .agg #[.int .i32 bx, .int .i32 by_, .int .i32 bz]] w (fun v w' => v = .bool (topZ (clampZ ax) (clampZ ay) (clampZ bx) (clampZ by_)) ∧ St w NoM [] [] w') := by
  refine Ret.enter (args := [.agg #[.int .i32 ax, .int .i32 ay, .int .i32 az], .agg #[.int .i32 bx, .int .i32 by_, .int .i32 bz]]) Try.func30 rfl rfl rfl ?_
  have hst := St.init w
  have hax := clampZ_bd ax
  have hay := clampZ_bd ay
  have hbx := clampZ_bd bx
  have hby := clampZ_bd by_
  refine run_seq ?_
  refine run_region ?_
  refine RunL.cons (Op1.box (v := .agg #[.int .i32 _, .int .i32 _, .int .i32 _]) hst rfl rfl fun w b2 hst => ?_)
  refine RunL.cons (Op1.box (v := .agg #[.int .i32 _, .int .i32 _, .int .i32 _]) hst rfl rfl fun w b3 hst => ?_)
  refine RunL.cons (Op1.assign (v := .bool _) rfl ?_)
  refine RunL.nil ?_
  refine run_seq ?_
  refine RunD.start [] hst (bs := [0, 1, 3, 0, 8, 31, 63, 127]) (ds := [some 7, some 8, some 9, some 10, some 11, some 12, some 13, some 5]) ⟨by kernel_rfl, by kernel_rfl, by kernel_rfl⟩ (fun tab1 => ?_)
  refine RunD.op (det _) tab1 1 (fun f' L' w' hc => Op1.fieldAddr fld25_0 (hc.old (v := .pointer (some ⟨_, _, none⟩)) rfl rfl rfl) ⟨[], ⟨rfl, rfl⟩, hc.st⟩) ?_
  refine RunD.op (det _) tab1 2 (fun f' L' w' hc => Op1.load1 (v := .int .i32 _) ty21 rfl (hc.det (j := 0) rfl rfl rfl rfl) (hc.st.cellL (List.mem_append_right _ (.head _)) rfl) ⟨[], ⟨rfl, rfl⟩, hc.st⟩) ?_
  refine RunD.op (det _) tab1 3 (fun f' L' w' hc => Op1.call1 (v1 := .int .i32 _) ent26 rfl (hc.det (j := 1) rfl rfl rfl rfl) ((ref_clamp _ _).mono fun v w hp => ⟨[], ⟨hp.1, rfl⟩, hc.st.keepc hp.2⟩)) ?_
  refine RunD.op (det _) tab1 4 (fun f' L' w' hc => Op1.fieldAddr fld25_0 (hc.old (v := .pointer (some ⟨_, _, none⟩)) rfl rfl rfl) ⟨[], ⟨rfl, rfl⟩, hc.st⟩) ?_
  refine RunD.op (det _) tab1 5 (fun f' L' w' hc => Op1.load1 (v := .int .i32 _) ty21 rfl (hc.det (j := 3) rfl rfl rfl rfl) (hc.st.cellL (List.mem_append_right _ (.tail _ (.head _))) rfl) ⟨[], ⟨rfl, rfl⟩, hc.st⟩) ?_
  refine RunD.fin followsMixed tab1 hst rfl (fun f2 w R5 hs3 hd4 hr6 hst => ?_)
  obtain ⟨h7_, r0⟩ := hd4 0 7 rfl rfl
  obtain ⟨h8_, r1⟩ := hd4 1 8 rfl rfl
  obtain ⟨h9_, r2⟩ := hd4 2 9 rfl rfl
  obtain ⟨h10_, r3⟩ := hd4 3 10 rfl rfl
  obtain ⟨h11_, r4⟩ := hd4 4 11 rfl rfl
  simp only [show List.range 5 = [0, 1, 2, 3, 4] from rfl, List.flatMap_cons, List.flatMap_nil, List.map_cons, List.map_nil, r0, r1, r2, r3, r4, List.nil_append, List.append_nil, List.cons_append] at hst
  refine RunL.slots (sl := [(2, .pointer (some ⟨_, _, none⟩)), (3, .pointer (some ⟨_, _, none⟩)), (9, .int .i32 _), (11, .int .i32 _)]) ⟨(hs3 2 rfl).trans rfl, (hs3 3 rfl).trans rfl, h9_, h11_, trivial⟩ ?_
  clear hs3 hd4 hr6 tab1
  refine RunL.cons (Op1.call1 (v1 := .int .i32 _) ent26 rfl rfl ((ref_clamp _ _).mono fun v w hp => ?_))
  obtain ⟨rfl, hp⟩ := hp
  replace hst := hst.keepc hp
  clear hp
  refine RunL.cons (Op1.subN rfl rfl rfl (wrap_i32 (by omega) (by omega)) ?_)
  refine RunL.cons (Op1.assign (v := .int .i32 _) rfl ?_)
  refine RunL.nil ?_
  refine run_seq ?_
  refine RunD.start [] hst (bs := [0, 1, 3, 0, 8, 31, 63, 127]) (ds := [some 14, some 15, some 16, some 17, some 18, some 19, some 20, some 6]) ⟨by kernel_rfl, by kernel_rfl, by kernel_rfl⟩ (fun tab7 => ?_)
  refine RunD.op (det _) tab7 1 (fun f' L' w' hc => Op1.fieldAddr fld25_1 (hc.old (v := .pointer (some ⟨_, _, none⟩)) rfl rfl rfl) ⟨[], ⟨rfl, rfl⟩, hc.st⟩) ?_
  refine RunD.op (det _) tab7 2 (fun f' L' w' hc => Op1.load1 (v := .int .i32 _) ty21 rfl (hc.det (j := 0) rfl rfl rfl rfl) (hc.st.cellL (List.mem_append_right _ (.head _)) rfl) ⟨[], ⟨rfl, rfl⟩, hc.st⟩) ?_
  refine RunD.op (det _) tab7 3 (fun f' L' w' hc => Op1.call1 (v1 := .int .i32 _) ent26 rfl (hc.det (j := 1) rfl rfl rfl rfl) ((ref_clamp _ _).mono fun v w hp => ⟨[], ⟨hp.1, rfl⟩, hc.st.keepc hp.2⟩)) ?_
  refine RunD.op (det _) tab7 4 (fun f' L' w' hc => Op1.fieldAddr fld25_1 (hc.old (v := .pointer (some ⟨_, _, none⟩)) rfl rfl rfl) ⟨[], ⟨rfl, rfl⟩, hc.st⟩) ?_
  refine RunD.op (det _) tab7 5 (fun f' L' w' hc => Op1.load1 (v := .int .i32 _) ty21 rfl (hc.det (j := 3) rfl rfl rfl rfl) (hc.st.cellL (List.mem_append_right _ (.tail _ (.head _))) rfl) ⟨[], ⟨rfl, rfl⟩, hc.st⟩) ?_
  refine RunD.fin followsMixed tab7 hst rfl (fun f8 w R11 hs9 hd10 hr12 hst => ?_)
  obtain ⟨h14_, r0⟩ := hd10 0 14 rfl rfl
  obtain ⟨h15_, r1⟩ := hd10 1 15 rfl rfl
  obtain ⟨h16_, r2⟩ := hd10 2 16 rfl rfl
  obtain ⟨h17_, r3⟩ := hd10 3 17 rfl rfl
  obtain ⟨h18_, r4⟩ := hd10 4 18 rfl rfl
  simp only [show List.range 5 = [0, 1, 2, 3, 4] from rfl, List.flatMap_cons, List.flatMap_nil, List.map_cons, List.map_nil, r0, r1, r2, r3, r4, List.nil_append, List.append_nil, List.cons_append] at hst
  refine RunL.slots (sl := [(5, .int .i32 _), (16, .int .i32 _), (18, .int .i32 _)]) ⟨(hs9 5 rfl).trans rfl, h16_, h18_, trivial⟩ ?_
  clear hs9 hd10 hr12 tab7
  refine RunL.cons (Op1.call1 (v1 := .int .i32 _) ent26 rfl rfl ((ref_clamp _ _).mono fun v w hp => ?_))
  obtain ⟨rfl, hp⟩ := hp
  replace hst := hst.keepc hp
  clear hp
  refine RunL.cons (Op1.subN rfl rfl rfl (wrap_i32 (by omega) (by omega)) ?_)
  refine RunL.cons (Op1.assign (v := .int .i32 _) rfl ?_)
  refine RunL.nil ?_
  refine run_seq ?_
  refine run_region ?_
  refine RunL.cons (Op1.move (v := .int .i32 _) rfl ?_)
  refine RunL.cons (Op1.eql rfl rfl ?_)
  refine RunL.cons (Op1.move (v := .bool _) rfl ?_)
  refine RunL.splitD (d := 23) rfl (fun g13 => ?_) (fun g13 => ?_)
  · skip
    refine RunL.take (t := 23) rfl (congrArg Value.bool (decide_eq_true g13)) (Op1.move (v := .int .i32 _) rfl ?_)
    refine RunL.take (t := 23) rfl (congrArg Value.bool (decide_eq_true g13)) (Op1.gtr rfl rfl ?_)
    refine RunL.cons (Op1.pickT (u := .bool _) (congrArg Value.bool (decide_eq_true g13)) rfl ?_)
    refine RunL.cons (Op1.move (v := .bool _) rfl ?_)
    refine RunL.splitD (d := 27) rfl (fun g14 => ?_) (fun g14 => ?_)
    · skip
      refine RunL.omit (t := 27) rfl (congrArg Value.bool (decide_eq_true g14)) rfl ?_
      refine RunL.omit (t := 27) rfl (congrArg Value.bool (decide_eq_true g14)) rfl ?_
      refine RunL.cons (Op1.pickT (u := .bool _) (congrArg Value.bool (decide_eq_true g14)) rfl ?_)
      refine RunL.cons (Op1.assign (v := .bool _) rfl ?_)
      refine RunL.nil ?_
      refine run_ret1 Try.func30 rfl (RV.tmp (v := .bool _) rfl) ?_
      refine ⟨congrArg Value.bool ?_, hst.pure⟩
      unfold topZ
      first | (rw [decide_eq_decide]; omega) | exact (decide_eq_false (by omega)).symm | exact (decide_eq_true (by omega)).symm
    · skip
      refine RunL.take (t := 27) rfl (congrArg Value.bool (decide_eq_false g14)) (Op1.move (v := .int .i32 _) rfl ?_)
      refine RunL.take (t := 27) rfl (congrArg Value.bool (decide_eq_false g14)) (Op1.lss rfl rfl ?_)
      refine RunL.cons (Op1.pickF (u := .bool _) (congrArg Value.bool (decide_eq_false g14)) rfl ?_)
      refine RunL.cons (Op1.assign (v := .bool _) rfl ?_)
      refine RunL.nil ?_
      refine run_ret1 Try.func30 rfl (RV.tmp (v := .bool _) rfl) ?_
      refine ⟨congrArg Value.bool ?_, hst.pure⟩
      unfold topZ
      first | (rw [decide_eq_decide]; omega) | exact (decide_eq_false (by omega)).symm | exact (decide_eq_true (by omega)).symm
  · skip
    refine RunL.omit (t := 23) rfl (congrArg Value.bool (decide_eq_false g13)) rfl ?_
    refine RunL.omit (t := 23) rfl (congrArg Value.bool (decide_eq_false g13)) rfl ?_
    refine RunL.cons (Op1.pickF (u := .bool _) (congrArg Value.bool (decide_eq_false g13)) rfl ?_)
    refine RunL.cons (Op1.move (v := .bool _) rfl ?_)
    refine RunL.take (t := 27) rfl (congrArg Value.bool (rfl : false = _)) (Op1.move (v := .int .i32 _) rfl ?_)
    refine RunL.take (t := 27) rfl (congrArg Value.bool (rfl : false = _)) (Op1.lss rfl rfl ?_)
    refine RunL.cons (Op1.pickF (u := .bool _) (congrArg Value.bool (rfl : false = _)) rfl ?_)
    refine RunL.cons (Op1.assign (v := .bool _) rfl ?_)
    refine RunL.nil ?_
    refine run_ret1 Try.func30 rfl (RV.tmp (v := .bool _) rfl) ?_
    refine ⟨congrArg Value.bool ?_, hst.pure⟩
    unfold topZ
    first | (rw [decide_eq_decide]; omega) | exact (decide_eq_false (by omega)).symm | exact (decide_eq_true (by omega)).symm

theorem law_EdgeAreas (ax ay az bx by_ bz px py pz : Int) (w : World) : Ret Try.prog 4 #[.agg #[.int .i32 ax, .int .i32 ay, .int .i32 az, .int .i32 bx, .int .i32 by_, .int .i32 bz, .int .i32 px, .int .i32 py, .int .i32 pz]] w (fun v w' => v = .bool true ∧ St w NoM [] [] w') := by
  refine Ret.enter (args := [.agg #[.int .i32 ax, .int .i32 ay, .int .i32 az, .int .i32 bx, .int .i32 by_, .int .i32 bz, .int .i32 px, .int .i32 py, .int .i32 pz]]) Try.func4 rfl rfl rfl ?_
  have hst := St.init w
  refine run_seq ?_
  refine run_region ?_
  refine RunL.cons (Op1.box (v := .agg #[.int .i32 _, .int .i32 _, .int .i32 _, .int .i32 _, .int .i32 _, .int .i32 _, .int .i32 _, .int .i32 _, .int .i32 _]) hst rfl rfl fun w b1 hst => ?_)
  refine RunL.cons (Op1.assign (v := .bool _) rfl ?_)
  refine RunL.nil ?_
  refine run_seq ?_
  refine RunD.start [] hst (bs := [0, 1, 0, 7, 15, 31]) (ds := [some 3, some 4, some 5, some 6, some 7, some 2]) ⟨by kernel_rfl, by kernel_rfl, by kernel_rfl⟩ (fun tab1 => ?_)
  refine RunD.op (det _) tab1 1 (fun f' L' w' hc => Op1.loadA (vs := [.int .i32 _, .int .i32 _, .int .i32 _, .int .i32 _, .int .i32 _, .int .i32 _, .int .i32 _, .int .i32 _, .int .i32 _]) ty27 rfl (hc.old (v := .pointer (some ⟨_, _, none⟩)) rfl rfl rfl) rfl (cells_of_obj (n := 9) (hc.st.objL (List.mem_append_right _ (.head _))) _ rfl) ⟨[], ⟨rfl, rfl⟩, hc.st⟩) ?_
  refine RunD.op (det _) tab1 2 (fun f' L' w' hc => Op1.call1 (v1 := .agg #[.int .i32 _, .int .i32 _, .int .i32 _, .int .i32 _, .int .i32 _, .int .i32 _, .int .i32 _, .int .i32 _, .int .i32 _]) ent23 rfl (hc.det (j := 0) rfl rfl rfl rfl) ((edge_area _ _ _ _ _ _ _ _ _ _).mono fun v w hp => ⟨[], ⟨hp.1, rfl⟩, hc.st.keepc hp.2⟩)) ?_
  refine RunD.op (det _) tab1 3 (fun f' L' w' hc => Op1.loadA (vs := [.int .i32 _, .int .i32 _, .int .i32 _, .int .i32 _, .int .i32 _, .int .i32 _, .int .i32 _, .int .i32 _, .int .i32 _]) ty27 rfl (hc.old (v := .pointer (some ⟨_, _, none⟩)) rfl rfl rfl) rfl (cells_of_obj (n := 9) (hc.st.objL (List.mem_append_right _ (.head _))) _ rfl) ⟨[], ⟨rfl, rfl⟩, hc.st⟩) ?_
  refine RunD.fin followsMixed tab1 hst rfl (fun f2 w R5 hs3 hd4 hr6 hst => ?_)
  obtain ⟨h3_, r0⟩ := hd4 0 3 rfl rfl
  obtain ⟨h4_, r1⟩ := hd4 1 4 rfl rfl
  obtain ⟨h5_, r2⟩ := hd4 2 5 rfl rfl
  simp only [show List.range 3 = [0, 1, 2] from rfl, List.flatMap_cons, List.flatMap_nil, List.map_cons, List.map_nil, r0, r1, r2, List.nil_append, List.append_nil, List.cons_append] at hst
  refine RunL.slots (sl := [(4, .int .i64 _), (5, .agg #[.int .i32 _, .int .i32 _, .int .i32 _, .int .i32 _, .int .i32 _, .int .i32 _, .int .i32 _, .int .i32 _, .int .i32 _])]) ⟨h4_, h5_, trivial⟩ ?_
  clear hs3 hd4 hr6 tab1
  refine RunL.cons (Op1.call1 (v1 := .agg #[.int .i32 _, .int .i32 _, .int .i32 _, .int .i32 _, .int .i32 _, .int .i32 _, .int .i32 _, .int .i32 _, .int .i32 _]) ent24 rfl rfl ((ref_area _ _ _ _ _ _ _ _ _ _).mono fun v w hp => ?_))
  obtain ⟨rfl, hp⟩ := hp
  replace hst := hst.keepc hp
  clear hp
  refine RunL.cons (Op1.eql rfl rfl ?_)
  refine RunL.cons (Op1.assign (v := .bool _) rfl ?_)
  refine RunL.nil ?_
  refine run_ret1 Try.func4 rfl (RV.tmp (v := .bool _) rfl) ?_
  exact ⟨congrArg Value.bool (by simp), hst.pure⟩

theorem law_EdgeSides (ax ay az bx by_ bz px py pz : Int) (w : World) : Ret Try.prog 5 #[.agg #[.int .i32 ax, .int .i32 ay, .int .i32 az], .agg #[.int .i32 bx, .int .i32 by_, .int .i32 bz], .agg #[.int .i32 px, .int .i32 py, .int .i32 pz]] w (fun v w' => v = .bool true ∧ St w NoM [] [] w') := by
  refine Ret.enter (args := [.agg #[.int .i32 ax, .int .i32 ay, .int .i32 az], .agg #[.int .i32 bx, .int .i32 by_, .int .i32 bz], .agg #[.int .i32 px, .int .i32 py, .int .i32 pz]]) Try.func5 rfl rfl rfl ?_
  have hst := St.init w
  refine run_seq ?_
  refine run_region ?_
  refine RunL.cons (Op1.box (v := .agg #[.int .i32 _, .int .i32 _, .int .i32 _]) hst rfl rfl fun w b3 hst => ?_)
  refine RunL.cons (Op1.box (v := .agg #[.int .i32 _, .int .i32 _, .int .i32 _]) hst rfl rfl fun w b4 hst => ?_)
  refine RunL.cons (Op1.box (v := .agg #[.int .i32 _, .int .i32 _, .int .i32 _]) hst rfl rfl fun w b5 hst => ?_)
  refine RunL.cons (Op1.assign (v := .bool _) rfl ?_)
  refine RunL.nil ?_
  refine run_seq ?_
  refine RunD.start [] hst (bs := [0, 1, 3, 0, 8, 31, 63, 127, 255, 255, 255, 2047, 255, 255, 255, 32767, 65535, 131071, 262143, 524287, 524287, 2097151, 524287, 524287, 16777215, 33554431, 67108863, 134217727]) (ds := [some 7, some 8, some 9, some 10, some 11, some 12, some 13, some 14, some 15, some 16, some 17, some 18, some 19, some 20, some 21, some 22, some 23, some 24, some 25, some 26, some 27, some 28, some 29, some 30, some 31, some 32, some 33, some 6]) ⟨by kernel_rfl, by kernel_rfl, by kernel_rfl⟩ (fun tab1 => ?_)
  refine RunD.op (det _) tab1 1 (fun f' L' w' hc => Op1.fieldAddr fld25_0 (hc.old (v := .pointer (some ⟨_, _, none⟩)) rfl rfl rfl) ⟨[], ⟨rfl, rfl⟩, hc.st⟩) ?_
  refine RunD.op (det _) tab1 2 (fun f' L' w' hc => Op1.load1 (v := .int .i32 _) ty21 rfl (hc.det (j := 0) rfl rfl rfl rfl) (hc.st.cellL (List.mem_append_right _ (.tail _ (.tail _ (.head _)))) rfl) ⟨[], ⟨rfl, rfl⟩, hc.st⟩) ?_
  refine RunD.op (det _) tab1 3 (fun f' L' w' hc => Op1.call1 (v1 := .int .i32 _) ent25 rfl (hc.det (j := 1) rfl rfl rfl rfl) ((edge_clamp _ _).mono fun v w hp => ⟨[], ⟨hp.1, rfl⟩, hc.st.keepc hp.2⟩)) ?_
  refine RunD.op (det _) tab1 4 (fun f' L' w' hc => Op1.fieldAddr fld25_0 (hc.old (v := .pointer (some ⟨_, _, none⟩)) rfl rfl rfl) ⟨[], ⟨rfl, rfl⟩, hc.st⟩) ?_
  refine RunD.op (det _) tab1 5 (fun f' L' w' hc => Op1.load1 (v := .int .i32 _) ty21 rfl (hc.det (j := 3) rfl rfl rfl rfl) (hc.st.cellL (List.mem_append_right _ (.tail _ (.tail _ (.head _)))) rfl) ⟨[], ⟨rfl, rfl⟩, hc.st⟩) ?_
  refine RunD.op (det _) tab1 6 (fun f' L' w' hc => Op1.call1 (v1 := .int .i32 _) ent26 rfl (hc.det (j := 4) rfl rfl rfl rfl) ((ref_clamp _ _).mono fun v w hp => ⟨[], ⟨hp.1, rfl⟩, hc.st.keepc hp.2⟩)) ?_
  refine RunD.op (det _) tab1 7 (fun f' L' w' hc => Op1.eql (hc.det (j := 2) rfl rfl rfl rfl) (hc.det (j := 5) rfl rfl rfl rfl) ⟨[], ⟨rfl, rfl⟩, hc.st⟩) ?_
  refine RunD.op (det _) tab1 8 (fun f' L' w' hc => Op1.move (v := .bool _) (hc.det (j := 6) rfl rfl rfl rfl) ⟨[], ⟨rfl, rfl⟩, hc.st⟩) ?_
  refine RunD.splitD (j := 7) rfl (fun g2 => ?_) (fun g2 => ?_)
  · skip
    refine RunD.take (det _) tab1 9 rfl (fun f' L' w' hc => (hc.det (j := 7) rfl rfl rfl rfl).trans (congrArg Value.bool (decide_eq_true g2))) (fun f' L' w' hc => Op1.loadA (vs := [.int .i32 _, .int .i32 _, .int .i32 _]) ty25 rfl (hc.old (v := .pointer (some ⟨_, _, none⟩)) rfl rfl rfl) rfl (cells_of_obj (n := 3) (hc.st.objL (List.mem_append_right _ (.tail _ (.tail _ (.head _))))) _ rfl) ⟨[], ⟨rfl, rfl⟩, hc.st⟩) ?_
    refine RunD.take (det _) tab1 10 rfl (fun f' L' w' hc => (hc.det (j := 7) rfl rfl rfl rfl).trans (congrArg Value.bool (decide_eq_true g2))) (fun f' L' w' hc => Op1.loadA (vs := [.int .i32 _, .int .i32 _, .int .i32 _]) ty25 rfl (hc.old (v := .pointer (some ⟨_, _, none⟩)) rfl rfl rfl) rfl (cells_of_obj (n := 3) (hc.st.objL (List.mem_append_right _ (.tail _ (.head _)))) _ rfl) ⟨[], ⟨rfl, rfl⟩, hc.st⟩) ?_
    refine RunD.take (det _) tab1 11 rfl (fun f' L' w' hc => (hc.det (j := 7) rfl rfl rfl rfl).trans (congrArg Value.bool (decide_eq_true g2))) (fun f' L' w' hc => Op1.loadA (vs := [.int .i32 _, .int .i32 _, .int .i32 _]) ty25 rfl (hc.old (v := .pointer (some ⟨_, _, none⟩)) rfl rfl rfl) rfl (cells_of_obj (n := 3) (hc.st.objL (List.mem_append_right _ (.head _))) _ rfl) ⟨[], ⟨rfl, rfl⟩, hc.st⟩) ?_
    refine RunD.take (det _) tab1 12 rfl (fun f' L' w' hc => (hc.det (j := 7) rfl rfl rfl rfl).trans (congrArg Value.bool (decide_eq_true g2))) (fun f' L' w' hc => Op1.call3 (v1 := .agg #[.int .i32 _, .int .i32 _, .int .i32 _]) (v2 := .agg #[.int .i32 _, .int .i32 _, .int .i32 _]) (v3 := .agg #[.int .i32 _, .int .i32 _, .int .i32 _]) ent27 rfl (hc.det (j := 8) rfl rfl rfl rfl) (hc.det (j := 9) rfl rfl rfl rfl) (hc.det (j := 10) rfl rfl rfl rfl) ((edge_side _ _ _ _ _ _ _ _ _ _).mono fun v w hp => ⟨[], ⟨hp.1, rfl⟩, hc.st.keepc hp.2⟩)) ?_
    refine RunD.take (det _) tab1 13 rfl (fun f' L' w' hc => (hc.det (j := 7) rfl rfl rfl rfl).trans (congrArg Value.bool (decide_eq_true g2))) (fun f' L' w' hc => Op1.loadA (vs := [.int .i32 _, .int .i32 _, .int .i32 _]) ty25 rfl (hc.old (v := .pointer (some ⟨_, _, none⟩)) rfl rfl rfl) rfl (cells_of_obj (n := 3) (hc.st.objL (List.mem_append_right _ (.tail _ (.tail _ (.head _))))) _ rfl) ⟨[], ⟨rfl, rfl⟩, hc.st⟩) ?_
    refine RunD.take (det _) tab1 14 rfl (fun f' L' w' hc => (hc.det (j := 7) rfl rfl rfl rfl).trans (congrArg Value.bool (decide_eq_true g2))) (fun f' L' w' hc => Op1.loadA (vs := [.int .i32 _, .int .i32 _, .int .i32 _]) ty25 rfl (hc.old (v := .pointer (some ⟨_, _, none⟩)) rfl rfl rfl) rfl (cells_of_obj (n := 3) (hc.st.objL (List.mem_append_right _ (.tail _ (.head _)))) _ rfl) ⟨[], ⟨rfl, rfl⟩, hc.st⟩) ?_
    refine RunD.take (det _) tab1 15 rfl (fun f' L' w' hc => (hc.det (j := 7) rfl rfl rfl rfl).trans (congrArg Value.bool (decide_eq_true g2))) (fun f' L' w' hc => Op1.loadA (vs := [.int .i32 _, .int .i32 _, .int .i32 _]) ty25 rfl (hc.old (v := .pointer (some ⟨_, _, none⟩)) rfl rfl rfl) rfl (cells_of_obj (n := 3) (hc.st.objL (List.mem_append_right _ (.head _))) _ rfl) ⟨[], ⟨rfl, rfl⟩, hc.st⟩) ?_
    refine RunD.take (det _) tab1 16 rfl (fun f' L' w' hc => (hc.det (j := 7) rfl rfl rfl rfl).trans (congrArg Value.bool (decide_eq_true g2))) (fun f' L' w' hc => Op1.call3 (v1 := .agg #[.int .i32 _, .int .i32 _, .int .i32 _]) (v2 := .agg #[.int .i32 _, .int .i32 _, .int .i32 _]) (v3 := .agg #[.int .i32 _, .int .i32 _, .int .i32 _]) ent28 rfl (hc.det (j := 12) rfl rfl rfl rfl) (hc.det (j := 13) rfl rfl rfl rfl) (hc.det (j := 14) rfl rfl rfl rfl) ((ref_side _ _ _ _ _ _ _ _ _ _).mono fun v w hp => ⟨[], ⟨hp.1, rfl⟩, hc.st.keepc hp.2⟩)) ?_
    refine RunD.take (det _) tab1 17 rfl (fun f' L' w' hc => (hc.det (j := 7) rfl rfl rfl rfl).trans (congrArg Value.bool (decide_eq_true g2))) (fun f' L' w' hc => Op1.eql (hc.det (j := 11) rfl rfl rfl rfl) (hc.det (j := 15) rfl rfl rfl rfl) ⟨[], ⟨rfl, rfl⟩, hc.st⟩) ?_
    refine RunD.op (det _) tab1 18 (fun f' L' w' hc => Op1.pickT (u := .bool _) (((hc.det (j := 7) rfl rfl rfl rfl)).trans (congrArg Value.bool (decide_eq_true g2))) (hc.det (j := 16) rfl rfl rfl rfl) ⟨[], ⟨rfl, rfl⟩, hc.st⟩) ?_
    refine RunD.op (det _) tab1 19 (fun f' L' w' hc => Op1.move (v := .bool _) (hc.det (j := 17) rfl rfl rfl rfl) ⟨[], ⟨rfl, rfl⟩, hc.st⟩) ?_
    refine RunD.splitD (j := 18) rfl (fun g3 => ?_) (fun g3 => ?_)
    · skip
      refine RunD.take (det _) tab1 20 rfl (fun f' L' w' hc => (hc.det (j := 18) rfl rfl rfl rfl).trans (congrArg Value.bool (decide_eq_true g3))) (fun f' L' w' hc => Op1.loadA (vs := [.int .i32 _, .int .i32 _, .int .i32 _]) ty25 rfl (hc.old (v := .pointer (some ⟨_, _, none⟩)) rfl rfl rfl) rfl (cells_of_obj (n := 3) (hc.st.objL (List.mem_append_right _ (.tail _ (.tail _ (.head _))))) _ rfl) ⟨[], ⟨rfl, rfl⟩, hc.st⟩) ?_
      refine RunD.take (det _) tab1 21 rfl (fun f' L' w' hc => (hc.det (j := 18) rfl rfl rfl rfl).trans (congrArg Value.bool (decide_eq_true g3))) (fun f' L' w' hc => Op1.loadA (vs := [.int .i32 _, .int .i32 _, .int .i32 _]) ty25 rfl (hc.old (v := .pointer (some ⟨_, _, none⟩)) rfl rfl rfl) rfl (cells_of_obj (n := 3) (hc.st.objL (List.mem_append_right _ (.tail _ (.head _)))) _ rfl) ⟨[], ⟨rfl, rfl⟩, hc.st⟩) ?_
      refine RunD.take (det _) tab1 22 rfl (fun f' L' w' hc => (hc.det (j := 18) rfl rfl rfl rfl).trans (congrArg Value.bool (decide_eq_true g3))) (fun f' L' w' hc => Op1.call2 (v1 := .agg #[.int .i32 _, .int .i32 _, .int .i32 _]) (v2 := .agg #[.int .i32 _, .int .i32 _, .int .i32 _]) ent29 rfl (hc.det (j := 19) rfl rfl rfl rfl) (hc.det (j := 20) rfl rfl rfl rfl) ((edge_top _ _ _ _ _ _ _).mono fun v w hp => ⟨[], ⟨hp.1, rfl⟩, hc.st.keepc hp.2⟩)) ?_
      refine RunD.take (det _) tab1 23 rfl (fun f' L' w' hc => (hc.det (j := 18) rfl rfl rfl rfl).trans (congrArg Value.bool (decide_eq_true g3))) (fun f' L' w' hc => Op1.loadA (vs := [.int .i32 _, .int .i32 _, .int .i32 _]) ty25 rfl (hc.old (v := .pointer (some ⟨_, _, none⟩)) rfl rfl rfl) rfl (cells_of_obj (n := 3) (hc.st.objL (List.mem_append_right _ (.tail _ (.tail _ (.head _))))) _ rfl) ⟨[], ⟨rfl, rfl⟩, hc.st⟩) ?_
      refine RunD.take (det _) tab1 24 rfl (fun f' L' w' hc => (hc.det (j := 18) rfl rfl rfl rfl).trans (congrArg Value.bool (decide_eq_true g3))) (fun f' L' w' hc => Op1.loadA (vs := [.int .i32 _, .int .i32 _, .int .i32 _]) ty25 rfl (hc.old (v := .pointer (some ⟨_, _, none⟩)) rfl rfl rfl) rfl (cells_of_obj (n := 3) (hc.st.objL (List.mem_append_right _ (.tail _ (.head _)))) _ rfl) ⟨[], ⟨rfl, rfl⟩, hc.st⟩) ?_
      refine RunD.fin followsMixed tab1 hst rfl (fun f4 w R7 hs5 hd6 hr8 hst => ?_)
      obtain ⟨h7_, r0⟩ := hd6 0 7 rfl rfl
      obtain ⟨h8_, r1⟩ := hd6 1 8 rfl rfl
      obtain ⟨h9_, r2⟩ := hd6 2 9 rfl rfl
      obtain ⟨h10_, r3⟩ := hd6 3 10 rfl rfl
      obtain ⟨h11_, r4⟩ := hd6 4 11 rfl rfl
      obtain ⟨h12_, r5⟩ := hd6 5 12 rfl rfl
      obtain ⟨h13_, r6⟩ := hd6 6 13 rfl rfl
      obtain ⟨h14_, r7⟩ := hd6 7 14 rfl rfl
      obtain ⟨h15_, r8⟩ := hd6 8 15 rfl rfl
      obtain ⟨h16_, r9⟩ := hd6 9 16 rfl rfl
      obtain ⟨h17_, r10⟩ := hd6 10 17 rfl rfl
      obtain ⟨h18_, r11⟩ := hd6 11 18 rfl rfl
      obtain ⟨h19_, r12⟩ := hd6 12 19 rfl rfl
      obtain ⟨h20_, r13⟩ := hd6 13 20 rfl rfl
      obtain ⟨h21_, r14⟩ := hd6 14 21 rfl rfl
      obtain ⟨h22_, r15⟩ := hd6 15 22 rfl rfl
      obtain ⟨h23_, r16⟩ := hd6 16 23 rfl rfl
      obtain ⟨h24_, r17⟩ := hd6 17 24 rfl rfl
      obtain ⟨h25_, r18⟩ := hd6 18 25 rfl rfl
      obtain ⟨h26_, r19⟩ := hd6 19 26 rfl rfl
      obtain ⟨h27_, r20⟩ := hd6 20 27 rfl rfl
      obtain ⟨h28_, r21⟩ := hd6 21 28 rfl rfl
      obtain ⟨h29_, r22⟩ := hd6 22 29 rfl rfl
      obtain ⟨h30_, r23⟩ := hd6 23 30 rfl rfl
      simp only [show List.range 24 = [0, 1, 2, 3, 4, 5, 6, 7, 8, 9, 10, 11, 12, 13, 14, 15, 16, 17, 18, 19, 20, 21, 22, 23] from rfl, List.flatMap_cons, List.flatMap_nil, List.map_cons, List.map_nil, r0, r1, r2, r3, r4, r5, r6, r7, r8, r9, r10, r11, r12, r13, r14, r15, r16, r17, r18, r19, r20, r21, r22, r23, List.nil_append, List.append_nil, List.cons_append] at hst
      refine RunL.slots (sl := [(25, .bool _), (28, .bool _), (29, .agg #[.int .i32 _, .int .i32 _, .int .i32 _]), (30, .agg #[.int .i32 _, .int .i32 _, .int .i32 _])]) ⟨h25_, h28_, h29_, h30_, trivial⟩ ?_
      clear hs5 hd6 hr8 tab1
      refine RunL.take (t := 25) rfl (congrArg Value.bool (decide_eq_true g3)) (Op1.call2 (v1 := .agg #[.int .i32 _, .int .i32 _, .int .i32 _]) (v2 := .agg #[.int .i32 _, .int .i32 _, .int .i32 _]) ent30 rfl rfl rfl ((ref_top _ _ _ _ _ _ _).mono fun v w hp => ?_))
      obtain ⟨rfl, hp⟩ := hp
      replace hst := hst.keepc hp
      clear hp
      refine RunL.take (t := 25) rfl (congrArg Value.bool (decide_eq_true g3)) (Op1.eqlB ty4 rfl rfl ?_)
      refine RunL.cons (Op1.pickT (u := .bool _) (congrArg Value.bool (decide_eq_true g3)) rfl ?_)
      refine RunL.cons (Op1.assign (v := .bool _) rfl ?_)
      refine RunL.nil ?_
      refine run_ret1 Try.func5 rfl (RV.tmp (v := .bool _) rfl) ?_
      exact ⟨congrArg Value.bool (by simp), hst.pure⟩
    · skip
      exfalso
      first | exact g3 rfl | (simp at g3; done)
  · skip
    exfalso
    first | exact g2 rfl | (simp at g2; done)

theorem side_swap (ax ay bx by_ px py : Int) : sideZ ax ay bx by_ px py = - sideZ bx by_ ax ay px py := by unfold sideZ; grind
theorem side_a (ax ay bx by_ : Int) : sideZ ax ay bx by_ ax ay = 0 := by unfold sideZ; grind
theorem side_b (ax ay bx by_ : Int) : sideZ ax ay bx by_ bx by_ = 0 := by unfold sideZ; grind
theorem side_rot (ax ay bx by_ px py : Int) : sideZ ax ay bx by_ px py = sideZ bx by_ px py ax ay := by unfold sideZ; grind
theorem sideC_bd (ax ay bx by_ px py : Int) : -1099511627776 ≤ sideZ (clampZ ax) (clampZ ay) (clampZ bx) (clampZ by_) (clampZ px) (clampZ py) ∧ sideZ (clampZ ax) (clampZ ay) (clampZ bx) (clampZ by_) (clampZ px) (clampZ py) ≤ 1099511627776 := by
  have h1 := clampZ_bd ax; have h2 := clampZ_bd ay; have h3 := clampZ_bd bx; have h4 := clampZ_bd by_; have h5 := clampZ_bd px; have h6 := clampZ_bd py
  unfold sideZ
  have e1 := mul_rng (a := clampZ bx - clampZ ax) (b := clampZ py - clampZ ay) (B := 65536) (by omega) (by omega) (by omega) (by omega) (by omega)
  have e2 := mul_rng (a := clampZ by_ - clampZ ay) (b := clampZ px - clampZ ax) (B := 65536) (by omega) (by omega) (by omega) (by omega) (by omega)
  omega
theorem top_eq (ax ay bx by_ : Int) (h : (topZ ax ay bx by_ != topZ bx by_ ax ay) = false) : ax = bx ∧ ay = by_ := by
  simp only [bne_eq_false_iff_eq, topZ, decide_eq_decide] at h
  omega
theorem law_EdgeLines (ax ay az bx by_ bz px py pz : Int) (w : World) : Ret Try.prog 6 #[.agg #[.int .i32 ax, .int .i32 ay, .int .i32 az], .agg #[.int .i32 bx, .int .i32 by_, .int .i32 bz], .agg #[.int .i32 px, .int .i32 py, .int .i32 pz]] w (fun v w' => v = .bool true ∧ St w NoM [] [] w') := by
  refine Ret.enter (args := [.agg #[.int .i32 ax, .int .i32 ay, .int .i32 az], .agg #[.int .i32 bx, .int .i32 by_, .int .i32 bz], .agg #[.int .i32 px, .int .i32 py, .int .i32 pz]]) Try.func6 rfl rfl rfl ?_
  have hst := St.init w
  have hb := sideC_bd bx by_ ax ay px py
  have e1 : sideZ (clampZ ax) (clampZ ay) (clampZ bx) (clampZ by_) (clampZ px) (clampZ py) = -sideZ (clampZ bx) (clampZ by_) (clampZ ax) (clampZ ay) (clampZ px) (clampZ py) := side_swap _ _ _ _ _ _
  have e2 : sideZ (clampZ ax) (clampZ ay) (clampZ bx) (clampZ by_) (clampZ ax) (clampZ ay) = 0 := side_a _ _ _ _
  have e3 : sideZ (clampZ ax) (clampZ ay) (clampZ bx) (clampZ by_) (clampZ bx) (clampZ by_) = 0 := side_b _ _ _ _
  have e4 : sideZ (clampZ ax) (clampZ ay) (clampZ bx) (clampZ by_) (clampZ px) (clampZ py) = sideZ (clampZ bx) (clampZ by_) (clampZ px) (clampZ py) (clampZ ax) (clampZ ay) := side_rot _ _ _ _ _ _
  refine run_seq ?_
  refine run_region ?_
  refine RunL.cons (Op1.box (v := .agg #[.int .i32 _, .int .i32 _, .int .i32 _]) hst rfl rfl fun w b3 hst => ?_)
  refine RunL.cons (Op1.box (v := .agg #[.int .i32 _, .int .i32 _, .int .i32 _]) hst rfl rfl fun w b4 hst => ?_)
  refine RunL.cons (Op1.box (v := .agg #[.int .i32 _, .int .i32 _, .int .i32 _]) hst rfl rfl fun w b5 hst => ?_)
  refine RunL.cons (Op1.assign (v := .bool _) rfl ?_)
  refine RunL.nil ?_
  refine run_seq ?_
  refine run_seq ?_
  refine run_region ?_
  refine RunL.cons (Op1.buildStruct ty25 stf25 .nil ?_)
  refine RunL.cons (Op1.buildStruct ty25 stf25 (.cons rfl (v := .int .i32 _) rfl rfl rfl rfl (by repeat (first | exact Put.nil | apply Put.put | apply Put.skip)) .nil) ?_)
  refine RunL.cons (Op1.buildStruct ty25 stf25 (.cons rfl (v := .int .i32 _) rfl rfl rfl rfl (by repeat (first | exact Put.nil | apply Put.put | apply Put.skip)) .nil) ?_)
  refine RunL.cons (Op1.call3 (v1 := .agg #[.int .i32 _, .int .i32 _, .int .i32 _]) (v2 := .agg #[.int .i32 _, .int .i32 _, .int .i32 _]) (v3 := .agg #[.int .i32 _, .int .i32 _, .int .i32 _]) ent27 rfl rfl rfl rfl ((edge_side _ _ _ _ _ _ _ _ _ _).mono fun v w hp => ?_))
  obtain ⟨rfl, hp⟩ := hp
  replace hst := hst.keepc hp
  clear hp
  refine RunL.cons (Op1.neq rfl rfl ?_)
  refine RunL.nil ?_
  refine run_cond_dec rfl (fun g1 => ?_) (fun g1 => ?_)
  · skip
    exfalso
    exact g1 (by decide)
  · skip
    refine run_skip ?_
    refine run_seq ?_
    refine run_seq ?_
    refine RunD.start [] hst (bs := [0, 0, 0, 7, 0, 0, 0, 127, 255, 511, 1023, 2047, 2047, 2047, 16383, 32767, 65535, 131071, 262143, 262143, 262143, 2097151, 4194303, 8388607, 16777215, 33554431, 33554431, 33554431, 268435455, 33554431, 33554431, 33554431, 4294967295, 8589934591, 17179869183]) (ds := [some 13, some 14, some 15, some 16, some 17, some 18, some 19, some 20, some 21, some 22, some 23, some 24, some 25, some 26, some 27, some 28, some 29, some 30, some 31, some 32, some 33, some 34, some 35, some 36, some 37, some 38, some 39, some 40, some 41, some 42, some 43, some 44, some 45, some 46, some 47]) ⟨by kernel_rfl, by kernel_rfl, by kernel_rfl⟩ (fun tab2 => ?_)
    refine RunD.op (det _) tab2 1 (fun f' L' w' hc => Op1.loadA (vs := [.int .i32 _, .int .i32 _, .int .i32 _]) ty25 rfl (hc.old (v := .pointer (some ⟨_, _, none⟩)) rfl rfl rfl) rfl (cells_of_obj (n := 3) (hc.st.objL (List.mem_append_right _ (.tail _ (.tail _ (.head _))))) _ rfl) ⟨[], ⟨rfl, rfl⟩, hc.st⟩) ?_
    refine RunD.op (det _) tab2 2 (fun f' L' w' hc => Op1.loadA (vs := [.int .i32 _, .int .i32 _, .int .i32 _]) ty25 rfl (hc.old (v := .pointer (some ⟨_, _, none⟩)) rfl rfl rfl) rfl (cells_of_obj (n := 3) (hc.st.objL (List.mem_append_right _ (.tail _ (.head _)))) _ rfl) ⟨[], ⟨rfl, rfl⟩, hc.st⟩) ?_
    refine RunD.op (det _) tab2 3 (fun f' L' w' hc => Op1.loadA (vs := [.int .i32 _, .int .i32 _, .int .i32 _]) ty25 rfl (hc.old (v := .pointer (some ⟨_, _, none⟩)) rfl rfl rfl) rfl (cells_of_obj (n := 3) (hc.st.objL (List.mem_append_right _ (.head _))) _ rfl) ⟨[], ⟨rfl, rfl⟩, hc.st⟩) ?_
    refine RunD.op (det _) tab2 4 (fun f' L' w' hc => Op1.call3 (v1 := .agg #[.int .i32 _, .int .i32 _, .int .i32 _]) (v2 := .agg #[.int .i32 _, .int .i32 _, .int .i32 _]) (v3 := .agg #[.int .i32 _, .int .i32 _, .int .i32 _]) ent27 rfl (hc.det (j := 0) rfl rfl rfl rfl) (hc.det (j := 1) rfl rfl rfl rfl) (hc.det (j := 2) rfl rfl rfl rfl) ((edge_side _ _ _ _ _ _ _ _ _ _).mono fun v w hp => ⟨[], ⟨hp.1, rfl⟩, hc.st.keepc hp.2⟩)) ?_
    refine RunD.op (det _) tab2 5 (fun f' L' w' hc => Op1.loadA (vs := [.int .i32 _, .int .i32 _, .int .i32 _]) ty25 rfl (hc.old (v := .pointer (some ⟨_, _, none⟩)) rfl rfl rfl) rfl (cells_of_obj (n := 3) (hc.st.objL (List.mem_append_right _ (.tail _ (.head _)))) _ rfl) ⟨[], ⟨rfl, rfl⟩, hc.st⟩) ?_
    refine RunD.op (det _) tab2 6 (fun f' L' w' hc => Op1.loadA (vs := [.int .i32 _, .int .i32 _, .int .i32 _]) ty25 rfl (hc.old (v := .pointer (some ⟨_, _, none⟩)) rfl rfl rfl) rfl (cells_of_obj (n := 3) (hc.st.objL (List.mem_append_right _ (.tail _ (.tail _ (.head _))))) _ rfl) ⟨[], ⟨rfl, rfl⟩, hc.st⟩) ?_
    refine RunD.op (det _) tab2 7 (fun f' L' w' hc => Op1.loadA (vs := [.int .i32 _, .int .i32 _, .int .i32 _]) ty25 rfl (hc.old (v := .pointer (some ⟨_, _, none⟩)) rfl rfl rfl) rfl (cells_of_obj (n := 3) (hc.st.objL (List.mem_append_right _ (.head _))) _ rfl) ⟨[], ⟨rfl, rfl⟩, hc.st⟩) ?_
    refine RunD.op (det _) tab2 8 (fun f' L' w' hc => Op1.call3 (v1 := .agg #[.int .i32 _, .int .i32 _, .int .i32 _]) (v2 := .agg #[.int .i32 _, .int .i32 _, .int .i32 _]) (v3 := .agg #[.int .i32 _, .int .i32 _, .int .i32 _]) ent27 rfl (hc.det (j := 4) rfl rfl rfl rfl) (hc.det (j := 5) rfl rfl rfl rfl) (hc.det (j := 6) rfl rfl rfl rfl) ((edge_side _ _ _ _ _ _ _ _ _ _).mono fun v w hp => ⟨[], ⟨hp.1, rfl⟩, hc.st.keepc hp.2⟩)) ?_
    first | refine RunD.op (det _) tab2 9 (fun f' L' w' hc => Op1.negN (hc.det (j := 7) rfl rfl rfl rfl) rfl (wrap_i64 (by omega) (by omega)) ⟨[], ⟨rfl, rfl⟩, hc.st⟩) ?_ | refine RunD.op (det _) tab2 9 (fun f' L' w' hc => Op1.neg (hc.det (j := 7) rfl rfl rfl rfl) ⟨[], ⟨rfl, rfl⟩, hc.st⟩) ?_
    refine RunD.op (det _) tab2 10 (fun f' L' w' hc => Op1.neq (hc.det (j := 3) rfl rfl rfl rfl) (hc.det (j := 8) rfl rfl rfl rfl) ⟨[], ⟨rfl, rfl⟩, hc.st⟩) ?_
    refine RunD.op (det _) tab2 11 (fun f' L' w' hc => Op1.move (v := .bool _) (hc.det (j := 9) rfl rfl rfl rfl) ⟨[], ⟨rfl, rfl⟩, hc.st⟩) ?_
    refine RunD.splitD (j := 10) rfl (fun g3 => ?_) (fun g3 => ?_)
    · skip
      exfalso
      exact g3 e1
    · skip
      refine RunD.take (det _) tab2 12 rfl (fun f' L' w' hc => (hc.det (j := 10) rfl rfl rfl rfl).trans (congrArg Value.bool (decide_eq_false g3))) (fun f' L' w' hc => Op1.loadA (vs := [.int .i32 _, .int .i32 _, .int .i32 _]) ty25 rfl (hc.old (v := .pointer (some ⟨_, _, none⟩)) rfl rfl rfl) rfl (cells_of_obj (n := 3) (hc.st.objL (List.mem_append_right _ (.tail _ (.tail _ (.head _))))) _ rfl) ⟨[], ⟨rfl, rfl⟩, hc.st⟩) ?_
      refine RunD.take (det _) tab2 13 rfl (fun f' L' w' hc => (hc.det (j := 10) rfl rfl rfl rfl).trans (congrArg Value.bool (decide_eq_false g3))) (fun f' L' w' hc => Op1.loadA (vs := [.int .i32 _, .int .i32 _, .int .i32 _]) ty25 rfl (hc.old (v := .pointer (some ⟨_, _, none⟩)) rfl rfl rfl) rfl (cells_of_obj (n := 3) (hc.st.objL (List.mem_append_right _ (.tail _ (.head _)))) _ rfl) ⟨[], ⟨rfl, rfl⟩, hc.st⟩) ?_
      refine RunD.take (det _) tab2 14 rfl (fun f' L' w' hc => (hc.det (j := 10) rfl rfl rfl rfl).trans (congrArg Value.bool (decide_eq_false g3))) (fun f' L' w' hc => Op1.loadA (vs := [.int .i32 _, .int .i32 _, .int .i32 _]) ty25 rfl (hc.old (v := .pointer (some ⟨_, _, none⟩)) rfl rfl rfl) rfl (cells_of_obj (n := 3) (hc.st.objL (List.mem_append_right _ (.tail _ (.tail _ (.head _))))) _ rfl) ⟨[], ⟨rfl, rfl⟩, hc.st⟩) ?_
      refine RunD.take (det _) tab2 15 rfl (fun f' L' w' hc => (hc.det (j := 10) rfl rfl rfl rfl).trans (congrArg Value.bool (decide_eq_false g3))) (fun f' L' w' hc => Op1.call3 (v1 := .agg #[.int .i32 _, .int .i32 _, .int .i32 _]) (v2 := .agg #[.int .i32 _, .int .i32 _, .int .i32 _]) (v3 := .agg #[.int .i32 _, .int .i32 _, .int .i32 _]) ent27 rfl (hc.det (j := 11) rfl rfl rfl rfl) (hc.det (j := 12) rfl rfl rfl rfl) (hc.det (j := 13) rfl rfl rfl rfl) ((edge_side _ _ _ _ _ _ _ _ _ _).mono fun v w hp => ⟨[], ⟨hp.1, rfl⟩, hc.st.keepc hp.2⟩)) ?_
      refine RunD.take (det _) tab2 16 rfl (fun f' L' w' hc => (hc.det (j := 10) rfl rfl rfl rfl).trans (congrArg Value.bool (decide_eq_false g3))) (fun f' L' w' hc => Op1.neq (hc.det (j := 14) rfl rfl rfl rfl) rfl ⟨[], ⟨rfl, rfl⟩, hc.st⟩) ?_
      refine RunD.op (det _) tab2 17 (fun f' L' w' hc => Op1.pickF (u := .bool _) (((hc.det (j := 10) rfl rfl rfl rfl)).trans (congrArg Value.bool (decide_eq_false g3))) (hc.det (j := 15) rfl rfl rfl rfl) ⟨[], ⟨rfl, rfl⟩, hc.st⟩) ?_
      refine RunD.op (det _) tab2 18 (fun f' L' w' hc => Op1.move (v := .bool _) (hc.det (j := 16) rfl rfl rfl rfl) ⟨[], ⟨rfl, rfl⟩, hc.st⟩) ?_
      refine RunD.splitD (j := 17) rfl (fun g4 => ?_) (fun g4 => ?_)
      · skip
        exfalso
        exact g4 e2
      · skip
        refine RunD.take (det _) tab2 19 rfl (fun f' L' w' hc => (hc.det (j := 17) rfl rfl rfl rfl).trans (congrArg Value.bool (decide_eq_false g4))) (fun f' L' w' hc => Op1.loadA (vs := [.int .i32 _, .int .i32 _, .int .i32 _]) ty25 rfl (hc.old (v := .pointer (some ⟨_, _, none⟩)) rfl rfl rfl) rfl (cells_of_obj (n := 3) (hc.st.objL (List.mem_append_right _ (.tail _ (.tail _ (.head _))))) _ rfl) ⟨[], ⟨rfl, rfl⟩, hc.st⟩) ?_
        refine RunD.take (det _) tab2 20 rfl (fun f' L' w' hc => (hc.det (j := 17) rfl rfl rfl rfl).trans (congrArg Value.bool (decide_eq_false g4))) (fun f' L' w' hc => Op1.loadA (vs := [.int .i32 _, .int .i32 _, .int .i32 _]) ty25 rfl (hc.old (v := .pointer (some ⟨_, _, none⟩)) rfl rfl rfl) rfl (cells_of_obj (n := 3) (hc.st.objL (List.mem_append_right _ (.tail _ (.head _)))) _ rfl) ⟨[], ⟨rfl, rfl⟩, hc.st⟩) ?_
        refine RunD.take (det _) tab2 21 rfl (fun f' L' w' hc => (hc.det (j := 17) rfl rfl rfl rfl).trans (congrArg Value.bool (decide_eq_false g4))) (fun f' L' w' hc => Op1.loadA (vs := [.int .i32 _, .int .i32 _, .int .i32 _]) ty25 rfl (hc.old (v := .pointer (some ⟨_, _, none⟩)) rfl rfl rfl) rfl (cells_of_obj (n := 3) (hc.st.objL (List.mem_append_right _ (.tail _ (.head _)))) _ rfl) ⟨[], ⟨rfl, rfl⟩, hc.st⟩) ?_
        refine RunD.take (det _) tab2 22 rfl (fun f' L' w' hc => (hc.det (j := 17) rfl rfl rfl rfl).trans (congrArg Value.bool (decide_eq_false g4))) (fun f' L' w' hc => Op1.call3 (v1 := .agg #[.int .i32 _, .int .i32 _, .int .i32 _]) (v2 := .agg #[.int .i32 _, .int .i32 _, .int .i32 _]) (v3 := .agg #[.int .i32 _, .int .i32 _, .int .i32 _]) ent27 rfl (hc.det (j := 18) rfl rfl rfl rfl) (hc.det (j := 19) rfl rfl rfl rfl) (hc.det (j := 20) rfl rfl rfl rfl) ((edge_side _ _ _ _ _ _ _ _ _ _).mono fun v w hp => ⟨[], ⟨hp.1, rfl⟩, hc.st.keepc hp.2⟩)) ?_
        refine RunD.take (det _) tab2 23 rfl (fun f' L' w' hc => (hc.det (j := 17) rfl rfl rfl rfl).trans (congrArg Value.bool (decide_eq_false g4))) (fun f' L' w' hc => Op1.neq (hc.det (j := 21) rfl rfl rfl rfl) rfl ⟨[], ⟨rfl, rfl⟩, hc.st⟩) ?_
        refine RunD.op (det _) tab2 24 (fun f' L' w' hc => Op1.pickF (u := .bool _) (((hc.det (j := 17) rfl rfl rfl rfl)).trans (congrArg Value.bool (decide_eq_false g4))) (hc.det (j := 22) rfl rfl rfl rfl) ⟨[], ⟨rfl, rfl⟩, hc.st⟩) ?_
        refine RunD.op (det _) tab2 25 (fun f' L' w' hc => Op1.move (v := .bool _) (hc.det (j := 23) rfl rfl rfl rfl) ⟨[], ⟨rfl, rfl⟩, hc.st⟩) ?_
        refine RunD.splitD (j := 24) rfl (fun g5 => ?_) (fun g5 => ?_)
        · skip
          exfalso
          exact g5 e3
        · skip
          refine RunD.take (det _) tab2 26 rfl (fun f' L' w' hc => (hc.det (j := 24) rfl rfl rfl rfl).trans (congrArg Value.bool (decide_eq_false g5))) (fun f' L' w' hc => Op1.loadA (vs := [.int .i32 _, .int .i32 _, .int .i32 _]) ty25 rfl (hc.old (v := .pointer (some ⟨_, _, none⟩)) rfl rfl rfl) rfl (cells_of_obj (n := 3) (hc.st.objL (List.mem_append_right _ (.tail _ (.tail _ (.head _))))) _ rfl) ⟨[], ⟨rfl, rfl⟩, hc.st⟩) ?_
          refine RunD.take (det _) tab2 27 rfl (fun f' L' w' hc => (hc.det (j := 24) rfl rfl rfl rfl).trans (congrArg Value.bool (decide_eq_false g5))) (fun f' L' w' hc => Op1.loadA (vs := [.int .i32 _, .int .i32 _, .int .i32 _]) ty25 rfl (hc.old (v := .pointer (some ⟨_, _, none⟩)) rfl rfl rfl) rfl (cells_of_obj (n := 3) (hc.st.objL (List.mem_append_right _ (.tail _ (.head _)))) _ rfl) ⟨[], ⟨rfl, rfl⟩, hc.st⟩) ?_
          refine RunD.take (det _) tab2 28 rfl (fun f' L' w' hc => (hc.det (j := 24) rfl rfl rfl rfl).trans (congrArg Value.bool (decide_eq_false g5))) (fun f' L' w' hc => Op1.loadA (vs := [.int .i32 _, .int .i32 _, .int .i32 _]) ty25 rfl (hc.old (v := .pointer (some ⟨_, _, none⟩)) rfl rfl rfl) rfl (cells_of_obj (n := 3) (hc.st.objL (List.mem_append_right _ (.head _))) _ rfl) ⟨[], ⟨rfl, rfl⟩, hc.st⟩) ?_
          refine RunD.take (det _) tab2 29 rfl (fun f' L' w' hc => (hc.det (j := 24) rfl rfl rfl rfl).trans (congrArg Value.bool (decide_eq_false g5))) (fun f' L' w' hc => Op1.call3 (v1 := .agg #[.int .i32 _, .int .i32 _, .int .i32 _]) (v2 := .agg #[.int .i32 _, .int .i32 _, .int .i32 _]) (v3 := .agg #[.int .i32 _, .int .i32 _, .int .i32 _]) ent27 rfl (hc.det (j := 25) rfl rfl rfl rfl) (hc.det (j := 26) rfl rfl rfl rfl) (hc.det (j := 27) rfl rfl rfl rfl) ((edge_side _ _ _ _ _ _ _ _ _ _).mono fun v w hp => ⟨[], ⟨hp.1, rfl⟩, hc.st.keepc hp.2⟩)) ?_
          refine RunD.take (det _) tab2 30 rfl (fun f' L' w' hc => (hc.det (j := 24) rfl rfl rfl rfl).trans (congrArg Value.bool (decide_eq_false g5))) (fun f' L' w' hc => Op1.loadA (vs := [.int .i32 _, .int .i32 _, .int .i32 _]) ty25 rfl (hc.old (v := .pointer (some ⟨_, _, none⟩)) rfl rfl rfl) rfl (cells_of_obj (n := 3) (hc.st.objL (List.mem_append_right _ (.tail _ (.head _)))) _ rfl) ⟨[], ⟨rfl, rfl⟩, hc.st⟩) ?_
          refine RunD.take (det _) tab2 31 rfl (fun f' L' w' hc => (hc.det (j := 24) rfl rfl rfl rfl).trans (congrArg Value.bool (decide_eq_false g5))) (fun f' L' w' hc => Op1.loadA (vs := [.int .i32 _, .int .i32 _, .int .i32 _]) ty25 rfl (hc.old (v := .pointer (some ⟨_, _, none⟩)) rfl rfl rfl) rfl (cells_of_obj (n := 3) (hc.st.objL (List.mem_append_right _ (.head _))) _ rfl) ⟨[], ⟨rfl, rfl⟩, hc.st⟩) ?_
          refine RunD.take (det _) tab2 32 rfl (fun f' L' w' hc => (hc.det (j := 24) rfl rfl rfl rfl).trans (congrArg Value.bool (decide_eq_false g5))) (fun f' L' w' hc => Op1.loadA (vs := [.int .i32 _, .int .i32 _, .int .i32 _]) ty25 rfl (hc.old (v := .pointer (some ⟨_, _, none⟩)) rfl rfl rfl) rfl (cells_of_obj (n := 3) (hc.st.objL (List.mem_append_right _ (.tail _ (.tail _ (.head _))))) _ rfl) ⟨[], ⟨rfl, rfl⟩, hc.st⟩) ?_
          refine RunD.fin followsMixed tab2 hst rfl (fun f6 w R9 hs7 hd8 hr10 hst => ?_)
          obtain ⟨h13_, r0⟩ := hd8 0 13 rfl rfl
          obtain ⟨h14_, r1⟩ := hd8 1 14 rfl rfl
          obtain ⟨h15_, r2⟩ := hd8 2 15 rfl rfl
          obtain ⟨h16_, r3⟩ := hd8 3 16 rfl rfl
          obtain ⟨h17_, r4⟩ := hd8 4 17 rfl rfl
          obtain ⟨h18_, r5⟩ := hd8 5 18 rfl rfl
          obtain ⟨h19_, r6⟩ := hd8 6 19 rfl rfl
          obtain ⟨h20_, r7⟩ := hd8 7 20 rfl rfl
          obtain ⟨h21_, r8⟩ := hd8 8 21 rfl rfl
          obtain ⟨h22_, r9⟩ := hd8 9 22 rfl rfl
          obtain ⟨h23_, r10⟩ := hd8 10 23 rfl rfl
          obtain ⟨h24_, r11⟩ := hd8 11 24 rfl rfl
          obtain ⟨h25_, r12⟩ := hd8 12 25 rfl rfl
          obtain ⟨h26_, r13⟩ := hd8 13 26 rfl rfl
          obtain ⟨h27_, r14⟩ := hd8 14 27 rfl rfl
          obtain ⟨h28_, r15⟩ := hd8 15 28 rfl rfl
          obtain ⟨h29_, r16⟩ := hd8 16 29 rfl rfl
          obtain ⟨h30_, r17⟩ := hd8 17 30 rfl rfl
          obtain ⟨h31_, r18⟩ := hd8 18 31 rfl rfl
          obtain ⟨h32_, r19⟩ := hd8 19 32 rfl rfl
          obtain ⟨h33_, r20⟩ := hd8 20 33 rfl rfl
          obtain ⟨h34_, r21⟩ := hd8 21 34 rfl rfl
          obtain ⟨h35_, r22⟩ := hd8 22 35 rfl rfl
          obtain ⟨h36_, r23⟩ := hd8 23 36 rfl rfl
          obtain ⟨h37_, r24⟩ := hd8 24 37 rfl rfl
          obtain ⟨h38_, r25⟩ := hd8 25 38 rfl rfl
          obtain ⟨h39_, r26⟩ := hd8 26 39 rfl rfl
          obtain ⟨h40_, r27⟩ := hd8 27 40 rfl rfl
          obtain ⟨h41_, r28⟩ := hd8 28 41 rfl rfl
          obtain ⟨h42_, r29⟩ := hd8 29 42 rfl rfl
          obtain ⟨h43_, r30⟩ := hd8 30 43 rfl rfl
          obtain ⟨h44_, r31⟩ := hd8 31 44 rfl rfl
          simp only [show List.range 32 = [0, 1, 2, 3, 4, 5, 6, 7, 8, 9, 10, 11, 12, 13, 14, 15, 16, 17, 18, 19, 20, 21, 22, 23, 24, 25, 26, 27, 28, 29, 30, 31] from rfl, List.flatMap_cons, List.flatMap_nil, List.map_cons, List.map_nil, r0, r1, r2, r3, r4, r5, r6, r7, r8, r9, r10, r11, r12, r13, r14, r15, r16, r17, r18, r19, r20, r21, r22, r23, r24, r25, r26, r27, r28, r29, r30, r31, List.nil_append, List.append_nil, List.cons_append] at hst
          refine RunL.slots (sl := [(3, .pointer (some ⟨_, _, none⟩)), (4, .pointer (some ⟨_, _, none⟩)), (37, .bool _), (41, .int .i64 _), (42, .agg #[.int .i32 _, .int .i32 _, .int .i32 _]), (43, .agg #[.int .i32 _, .int .i32 _, .int .i32 _]), (44, .agg #[.int .i32 _, .int .i32 _, .int .i32 _])]) ⟨(hs7 3 rfl).trans rfl, (hs7 4 rfl).trans rfl, h37_, h41_, h42_, h43_, h44_, trivial⟩ ?_
          clear hs7 hd8 hr10 tab2
          refine RunL.take (t := 37) rfl (congrArg Value.bool (decide_eq_false g5)) (Op1.call3 (v1 := .agg #[.int .i32 _, .int .i32 _, .int .i32 _]) (v2 := .agg #[.int .i32 _, .int .i32 _, .int .i32 _]) (v3 := .agg #[.int .i32 _, .int .i32 _, .int .i32 _]) ent27 rfl rfl rfl rfl ((edge_side _ _ _ _ _ _ _ _ _ _).mono fun v w hp => ?_))
          obtain ⟨rfl, hp⟩ := hp
          replace hst := hst.keepc hp
          clear hp
          refine RunL.take (t := 37) rfl (congrArg Value.bool (decide_eq_false g5)) (Op1.neq rfl rfl ?_)
          refine RunL.cons (Op1.pickF (u := .bool _) (congrArg Value.bool (decide_eq_false g5)) rfl ?_)
          refine RunL.nil ?_
          refine run_cond_dec rfl (fun g11 => ?_) (fun g11 => ?_)
          · skip
            exfalso
            exact g11 e4
          · skip
            refine run_skip ?_
            refine run_seq ?_
            refine RunD.start [] hst (bs := [0, 1, 3, 0, 8, 31, 63, 127, 255, 511, 1023, 255, 2303, 8191, 16383, 32767, 65535]) (ds := [some 48, some 49, some 50, some 51, some 52, some 53, some 54, some 55, some 56, some 57, some 58, some 59, some 60, some 61, some 62, some 63, some 7]) ⟨by kernel_rfl, by kernel_rfl, by kernel_rfl⟩ (fun tab12 => ?_)
            refine RunD.op (det _) tab12 1 (fun f' L' w' hc => Op1.fieldAddr fld25_0 (hc.old (v := .pointer (some ⟨_, _, none⟩)) rfl rfl rfl) ⟨[], ⟨rfl, rfl⟩, hc.st⟩) ?_
            refine RunD.op (det _) tab12 2 (fun f' L' w' hc => Op1.load1 (v := .int .i32 _) ty21 rfl (hc.det (j := 0) rfl rfl rfl rfl) (hc.st.cellL (List.mem_append_right _ (.tail _ (.tail _ (.head _)))) rfl) ⟨[], ⟨rfl, rfl⟩, hc.st⟩) ?_
            refine RunD.op (det _) tab12 3 (fun f' L' w' hc => Op1.call1 (v1 := .int .i32 _) ent25 rfl (hc.det (j := 1) rfl rfl rfl rfl) ((edge_clamp _ _).mono fun v w hp => ⟨[], ⟨hp.1, rfl⟩, hc.st.keepc hp.2⟩)) ?_
            refine RunD.op (det _) tab12 4 (fun f' L' w' hc => Op1.fieldAddr fld25_0 (hc.old (v := .pointer (some ⟨_, _, none⟩)) rfl rfl rfl) ⟨[], ⟨rfl, rfl⟩, hc.st⟩) ?_
            refine RunD.op (det _) tab12 5 (fun f' L' w' hc => Op1.load1 (v := .int .i32 _) ty21 rfl (hc.det (j := 3) rfl rfl rfl rfl) (hc.st.cellL (List.mem_append_right _ (.tail _ (.head _))) rfl) ⟨[], ⟨rfl, rfl⟩, hc.st⟩) ?_
            refine RunD.op (det _) tab12 6 (fun f' L' w' hc => Op1.call1 (v1 := .int .i32 _) ent25 rfl (hc.det (j := 4) rfl rfl rfl rfl) ((edge_clamp _ _).mono fun v w hp => ⟨[], ⟨hp.1, rfl⟩, hc.st.keepc hp.2⟩)) ?_
            refine RunD.op (det _) tab12 7 (fun f' L' w' hc => Op1.eql (hc.det (j := 2) rfl rfl rfl rfl) (hc.det (j := 5) rfl rfl rfl rfl) ⟨[], ⟨rfl, rfl⟩, hc.st⟩) ?_
            refine RunD.op (det _) tab12 8 (fun f' L' w' hc => Op1.move (v := .bool _) (hc.det (j := 6) rfl rfl rfl rfl) ⟨[], ⟨rfl, rfl⟩, hc.st⟩) ?_
            refine RunD.splitD (j := 7) rfl (fun g13 => ?_) (fun g13 => ?_)
            · skip
              refine RunD.take (det _) tab12 9 rfl (fun f' L' w' hc => (hc.det (j := 7) rfl rfl rfl rfl).trans (congrArg Value.bool (decide_eq_true g13))) (fun f' L' w' hc => Op1.fieldAddr fld25_1 (hc.old (v := .pointer (some ⟨_, _, none⟩)) rfl rfl rfl) ⟨[], ⟨rfl, rfl⟩, hc.st⟩) ?_
              refine RunD.take (det _) tab12 10 rfl (fun f' L' w' hc => (hc.det (j := 7) rfl rfl rfl rfl).trans (congrArg Value.bool (decide_eq_true g13))) (fun f' L' w' hc => Op1.load1 (v := .int .i32 _) ty21 rfl (hc.det (j := 8) rfl rfl rfl rfl) (hc.st.cellL (List.mem_append_right _ (.tail _ (.tail _ (.head _)))) rfl) ⟨[], ⟨rfl, rfl⟩, hc.st⟩) ?_
              refine RunD.take (det _) tab12 11 rfl (fun f' L' w' hc => (hc.det (j := 7) rfl rfl rfl rfl).trans (congrArg Value.bool (decide_eq_true g13))) (fun f' L' w' hc => Op1.call1 (v1 := .int .i32 _) ent25 rfl (hc.det (j := 9) rfl rfl rfl rfl) ((edge_clamp _ _).mono fun v w hp => ⟨[], ⟨hp.1, rfl⟩, hc.st.keepc hp.2⟩)) ?_
              refine RunD.take (det _) tab12 12 rfl (fun f' L' w' hc => (hc.det (j := 7) rfl rfl rfl rfl).trans (congrArg Value.bool (decide_eq_true g13))) (fun f' L' w' hc => Op1.fieldAddr fld25_1 (hc.old (v := .pointer (some ⟨_, _, none⟩)) rfl rfl rfl) ⟨[], ⟨rfl, rfl⟩, hc.st⟩) ?_
              refine RunD.take (det _) tab12 13 rfl (fun f' L' w' hc => (hc.det (j := 7) rfl rfl rfl rfl).trans (congrArg Value.bool (decide_eq_true g13))) (fun f' L' w' hc => Op1.load1 (v := .int .i32 _) ty21 rfl (hc.det (j := 11) rfl rfl rfl rfl) (hc.st.cellL (List.mem_append_right _ (.tail _ (.head _))) rfl) ⟨[], ⟨rfl, rfl⟩, hc.st⟩) ?_
              refine RunD.fin followsMixed tab12 hst rfl (fun f14 w R17 hs15 hd16 hr18 hst => ?_)
              obtain ⟨h48_, r0⟩ := hd16 0 48 rfl rfl
              obtain ⟨h49_, r1⟩ := hd16 1 49 rfl rfl
              obtain ⟨h50_, r2⟩ := hd16 2 50 rfl rfl
              obtain ⟨h51_, r3⟩ := hd16 3 51 rfl rfl
              obtain ⟨h52_, r4⟩ := hd16 4 52 rfl rfl
              obtain ⟨h53_, r5⟩ := hd16 5 53 rfl rfl
              obtain ⟨h54_, r6⟩ := hd16 6 54 rfl rfl
              obtain ⟨h55_, r7⟩ := hd16 7 55 rfl rfl
              obtain ⟨h56_, r8⟩ := hd16 8 56 rfl rfl
              obtain ⟨h57_, r9⟩ := hd16 9 57 rfl rfl
              obtain ⟨h58_, r10⟩ := hd16 10 58 rfl rfl
              obtain ⟨h59_, r11⟩ := hd16 11 59 rfl rfl
              obtain ⟨h60_, r12⟩ := hd16 12 60 rfl rfl
              simp only [show List.range 13 = [0, 1, 2, 3, 4, 5, 6, 7, 8, 9, 10, 11, 12] from rfl, List.flatMap_cons, List.flatMap_nil, List.map_cons, List.map_nil, r0, r1, r2, r3, r4, r5, r6, r7, r8, r9, r10, r11, r12, List.nil_append, List.append_nil, List.cons_append] at hst
              refine RunL.slots (sl := [(3, .pointer (some ⟨_, _, none⟩)), (4, .pointer (some ⟨_, _, none⟩)), (55, .bool _), (58, .int .i32 _), (60, .int .i32 _)]) ⟨(hs15 3 rfl).trans rfl, (hs15 4 rfl).trans rfl, h55_, h58_, h60_, trivial⟩ ?_
              clear hs15 hd16 hr18 tab12
              refine RunL.take (t := 55) rfl (congrArg Value.bool (decide_eq_true g13)) (Op1.call1 (v1 := .int .i32 _) ent25 rfl rfl ((edge_clamp _ _).mono fun v w hp => ?_))
              obtain ⟨rfl, hp⟩ := hp
              replace hst := hst.keepc hp
              clear hp
              refine RunL.take (t := 55) rfl (congrArg Value.bool (decide_eq_true g13)) (Op1.eql rfl rfl ?_)
              refine RunL.cons (Op1.pickT (u := .bool _) (congrArg Value.bool (decide_eq_true g13)) rfl ?_)
              refine RunL.cons (Op1.assign (v := .bool _) rfl ?_)
              refine RunL.nil ?_
              refine run_seq ?_
              refine RunD.start [] hst (bs := [0, 0, 3, 0, 0, 31, 63, 127, 255, 511, 1023]) (ds := [some 64, some 65, some 66, some 67, some 68, some 69, some 70, some 71, some 72, some 73, some 6]) ⟨by kernel_rfl, by kernel_rfl, by kernel_rfl⟩ (fun tab19 => ?_)
              refine RunD.op (det _) tab19 1 (fun f' L' w' hc => Op1.loadA (vs := [.int .i32 _, .int .i32 _, .int .i32 _]) ty25 rfl (hc.old (v := .pointer (some ⟨_, _, none⟩)) rfl rfl rfl) rfl (cells_of_obj (n := 3) (hc.st.objL (List.mem_append_right _ (.tail _ (.tail _ (.head _))))) _ rfl) ⟨[], ⟨rfl, rfl⟩, hc.st⟩) ?_
              refine RunD.op (det _) tab19 2 (fun f' L' w' hc => Op1.loadA (vs := [.int .i32 _, .int .i32 _, .int .i32 _]) ty25 rfl (hc.old (v := .pointer (some ⟨_, _, none⟩)) rfl rfl rfl) rfl (cells_of_obj (n := 3) (hc.st.objL (List.mem_append_right _ (.tail _ (.head _)))) _ rfl) ⟨[], ⟨rfl, rfl⟩, hc.st⟩) ?_
              refine RunD.op (det _) tab19 3 (fun f' L' w' hc => Op1.call2 (v1 := .agg #[.int .i32 _, .int .i32 _, .int .i32 _]) (v2 := .agg #[.int .i32 _, .int .i32 _, .int .i32 _]) ent29 rfl (hc.det (j := 0) rfl rfl rfl rfl) (hc.det (j := 1) rfl rfl rfl rfl) ((edge_top _ _ _ _ _ _ _).mono fun v w hp => ⟨[], ⟨hp.1, rfl⟩, hc.st.keepc hp.2⟩)) ?_
              refine RunD.op (det _) tab19 4 (fun f' L' w' hc => Op1.loadA (vs := [.int .i32 _, .int .i32 _, .int .i32 _]) ty25 rfl (hc.old (v := .pointer (some ⟨_, _, none⟩)) rfl rfl rfl) rfl (cells_of_obj (n := 3) (hc.st.objL (List.mem_append_right _ (.tail _ (.head _)))) _ rfl) ⟨[], ⟨rfl, rfl⟩, hc.st⟩) ?_
              refine RunD.op (det _) tab19 5 (fun f' L' w' hc => Op1.loadA (vs := [.int .i32 _, .int .i32 _, .int .i32 _]) ty25 rfl (hc.old (v := .pointer (some ⟨_, _, none⟩)) rfl rfl rfl) rfl (cells_of_obj (n := 3) (hc.st.objL (List.mem_append_right _ (.tail _ (.tail _ (.head _))))) _ rfl) ⟨[], ⟨rfl, rfl⟩, hc.st⟩) ?_
              refine RunD.fin followsMixed tab19 hst rfl (fun f20 w R23 hs21 hd22 hr24 hst => ?_)
              obtain ⟨h64_, r0⟩ := hd22 0 64 rfl rfl
              obtain ⟨h65_, r1⟩ := hd22 1 65 rfl rfl
              obtain ⟨h66_, r2⟩ := hd22 2 66 rfl rfl
              obtain ⟨h67_, r3⟩ := hd22 3 67 rfl rfl
              obtain ⟨h68_, r4⟩ := hd22 4 68 rfl rfl
              simp only [show List.range 5 = [0, 1, 2, 3, 4] from rfl, List.flatMap_cons, List.flatMap_nil, List.map_cons, List.map_nil, r0, r1, r2, r3, r4, List.nil_append, List.append_nil, List.cons_append] at hst
              refine RunL.slots (sl := [(7, .bool _), (66, .bool _), (67, .agg #[.int .i32 _, .int .i32 _, .int .i32 _]), (68, .agg #[.int .i32 _, .int .i32 _, .int .i32 _])]) ⟨(hs21 7 rfl).trans rfl, h66_, h67_, h68_, trivial⟩ ?_
              clear hs21 hd22 hr24 tab19
              refine RunL.cons (Op1.call2 (v1 := .agg #[.int .i32 _, .int .i32 _, .int .i32 _]) (v2 := .agg #[.int .i32 _, .int .i32 _, .int .i32 _]) ent29 rfl rfl rfl ((edge_top _ _ _ _ _ _ _).mono fun v w hp => ?_))
              obtain ⟨rfl, hp⟩ := hp
              replace hst := hst.keepc hp
              clear hp
              refine RunL.cons (Op1.neqB ty4 rfl rfl ?_)
              refine RunL.cons (Op1.move (v := .bool _) rfl ?_)
              refine RunL.split (d := 71) rfl (fun g25 => ?_) (fun g25 => ?_)
              · skip
                refine RunL.omit (t := 71) rfl (congrArg Value.bool g25) rfl ?_
                refine RunL.cons (Op1.pickT (u := .bool _) (congrArg Value.bool g25) rfl ?_)
                refine RunL.cons (Op1.assign (v := .bool _) rfl ?_)
                refine RunL.nil ?_
                refine run_ret1 Try.func6 rfl (RV.tmp (v := .bool _) rfl) ?_
                refine ⟨congrArg Value.bool ?_, hst.pure⟩
                first | rfl | (have ht := top_eq _ _ _ _ ‹_›; first | exact decide_eq_true ht.2 | (exfalso; omega))
              · skip
                refine RunL.take (t := 71) rfl (congrArg Value.bool g25) (Op1.move (v := .bool _) rfl ?_)
                refine RunL.cons (Op1.pickF (u := .bool _) (congrArg Value.bool g25) rfl ?_)
                refine RunL.cons (Op1.assign (v := .bool _) rfl ?_)
                refine RunL.nil ?_
                refine run_ret1 Try.func6 rfl (RV.tmp (v := .bool _) rfl) ?_
                refine ⟨congrArg Value.bool ?_, hst.pure⟩
                first | rfl | (have ht := top_eq _ _ _ _ ‹_›; first | exact decide_eq_true ht.2 | (exfalso; omega))
            · skip
              refine RunD.omit tab12 9 rfl rfl (fun f' L' w' hc => (hc.det (j := 7) rfl rfl rfl rfl).trans (congrArg Value.bool (decide_eq_false g13))) ?_
              refine RunD.omit tab12 10 rfl rfl (fun f' L' w' hc => (hc.det (j := 7) rfl rfl rfl rfl).trans (congrArg Value.bool (decide_eq_false g13))) ?_
              refine RunD.omit tab12 11 rfl rfl (fun f' L' w' hc => (hc.det (j := 7) rfl rfl rfl rfl).trans (congrArg Value.bool (decide_eq_false g13))) ?_
              refine RunD.omit tab12 12 rfl rfl (fun f' L' w' hc => (hc.det (j := 7) rfl rfl rfl rfl).trans (congrArg Value.bool (decide_eq_false g13))) ?_
              refine RunD.omit tab12 13 rfl rfl (fun f' L' w' hc => (hc.det (j := 7) rfl rfl rfl rfl).trans (congrArg Value.bool (decide_eq_false g13))) ?_
              refine RunD.fin followsMixed tab12 hst rfl (fun f26 w R29 hs27 hd28 hr30 hst => ?_)
              obtain ⟨h48_, r0⟩ := hd28 0 48 rfl rfl
              obtain ⟨h49_, r1⟩ := hd28 1 49 rfl rfl
              obtain ⟨h50_, r2⟩ := hd28 2 50 rfl rfl
              obtain ⟨h51_, r3⟩ := hd28 3 51 rfl rfl
              obtain ⟨h52_, r4⟩ := hd28 4 52 rfl rfl
              obtain ⟨h53_, r5⟩ := hd28 5 53 rfl rfl
              obtain ⟨h54_, r6⟩ := hd28 6 54 rfl rfl
              obtain ⟨h55_, r7⟩ := hd28 7 55 rfl rfl
              obtain ⟨h56_, r8⟩ := hd28 8 56 rfl rfl
              obtain ⟨h57_, r9⟩ := hd28 9 57 rfl rfl
              obtain ⟨h58_, r10⟩ := hd28 10 58 rfl rfl
              obtain ⟨h59_, r11⟩ := hd28 11 59 rfl rfl
              obtain ⟨h60_, r12⟩ := hd28 12 60 rfl rfl
              simp only [show List.range 13 = [0, 1, 2, 3, 4, 5, 6, 7, 8, 9, 10, 11, 12] from rfl, List.flatMap_cons, List.flatMap_nil, List.map_cons, List.map_nil, r0, r1, r2, r3, r4, r5, r6, r7, r8, r9, r10, r11, r12, List.nil_append, List.append_nil, List.cons_append] at hst
              refine RunL.slots (sl := [(3, .pointer (some ⟨_, _, none⟩)), (4, .pointer (some ⟨_, _, none⟩)), (55, .bool _), (58, _), (60, _)]) ⟨(hs27 3 rfl).trans rfl, (hs27 4 rfl).trans rfl, h55_, h58_, h60_, trivial⟩ ?_
              clear hs27 hd28 hr30 tab12
              refine RunL.omit (t := 55) rfl (congrArg Value.bool (decide_eq_false g13)) rfl ?_
              refine RunL.omit (t := 55) rfl (congrArg Value.bool (decide_eq_false g13)) rfl ?_
              refine RunL.cons (Op1.pickF (u := .bool _) (congrArg Value.bool (decide_eq_false g13)) rfl ?_)
              refine RunL.cons (Op1.assign (v := .bool _) rfl ?_)
              refine RunL.nil ?_
              refine run_seq ?_
              refine RunD.start [] hst (bs := [0, 0, 3, 0, 0, 31, 63, 127, 255, 511, 1023]) (ds := [some 64, some 65, some 66, some 67, some 68, some 69, some 70, some 71, some 72, some 73, some 6]) ⟨by kernel_rfl, by kernel_rfl, by kernel_rfl⟩ (fun tab31 => ?_)
              refine RunD.op (det _) tab31 1 (fun f' L' w' hc => Op1.loadA (vs := [.int .i32 _, .int .i32 _, .int .i32 _]) ty25 rfl (hc.old (v := .pointer (some ⟨_, _, none⟩)) rfl rfl rfl) rfl (cells_of_obj (n := 3) (hc.st.objL (List.mem_append_right _ (.tail _ (.tail _ (.head _))))) _ rfl) ⟨[], ⟨rfl, rfl⟩, hc.st⟩) ?_
              refine RunD.op (det _) tab31 2 (fun f' L' w' hc => Op1.loadA (vs := [.int .i32 _, .int .i32 _, .int .i32 _]) ty25 rfl (hc.old (v := .pointer (some ⟨_, _, none⟩)) rfl rfl rfl) rfl (cells_of_obj (n := 3) (hc.st.objL (List.mem_append_right _ (.tail _ (.head _)))) _ rfl) ⟨[], ⟨rfl, rfl⟩, hc.st⟩) ?_
              refine RunD.op (det _) tab31 3 (fun f' L' w' hc => Op1.call2 (v1 := .agg #[.int .i32 _, .int .i32 _, .int .i32 _]) (v2 := .agg #[.int .i32 _, .int .i32 _, .int .i32 _]) ent29 rfl (hc.det (j := 0) rfl rfl rfl rfl) (hc.det (j := 1) rfl rfl rfl rfl) ((edge_top _ _ _ _ _ _ _).mono fun v w hp => ⟨[], ⟨hp.1, rfl⟩, hc.st.keepc hp.2⟩)) ?_
              refine RunD.op (det _) tab31 4 (fun f' L' w' hc => Op1.loadA (vs := [.int .i32 _, .int .i32 _, .int .i32 _]) ty25 rfl (hc.old (v := .pointer (some ⟨_, _, none⟩)) rfl rfl rfl) rfl (cells_of_obj (n := 3) (hc.st.objL (List.mem_append_right _ (.tail _ (.head _)))) _ rfl) ⟨[], ⟨rfl, rfl⟩, hc.st⟩) ?_
              refine RunD.op (det _) tab31 5 (fun f' L' w' hc => Op1.loadA (vs := [.int .i32 _, .int .i32 _, .int .i32 _]) ty25 rfl (hc.old (v := .pointer (some ⟨_, _, none⟩)) rfl rfl rfl) rfl (cells_of_obj (n := 3) (hc.st.objL (List.mem_append_right _ (.tail _ (.tail _ (.head _))))) _ rfl) ⟨[], ⟨rfl, rfl⟩, hc.st⟩) ?_
              refine RunD.fin followsMixed tab31 hst rfl (fun f32 w R35 hs33 hd34 hr36 hst => ?_)
              obtain ⟨h64_, r0⟩ := hd34 0 64 rfl rfl
              obtain ⟨h65_, r1⟩ := hd34 1 65 rfl rfl
              obtain ⟨h66_, r2⟩ := hd34 2 66 rfl rfl
              obtain ⟨h67_, r3⟩ := hd34 3 67 rfl rfl
              obtain ⟨h68_, r4⟩ := hd34 4 68 rfl rfl
              simp only [show List.range 5 = [0, 1, 2, 3, 4] from rfl, List.flatMap_cons, List.flatMap_nil, List.map_cons, List.map_nil, r0, r1, r2, r3, r4, List.nil_append, List.append_nil, List.cons_append] at hst
              refine RunL.slots (sl := [(7, .bool _), (66, .bool _), (67, .agg #[.int .i32 _, .int .i32 _, .int .i32 _]), (68, .agg #[.int .i32 _, .int .i32 _, .int .i32 _])]) ⟨(hs33 7 rfl).trans rfl, h66_, h67_, h68_, trivial⟩ ?_
              clear hs33 hd34 hr36 tab31
              refine RunL.cons (Op1.call2 (v1 := .agg #[.int .i32 _, .int .i32 _, .int .i32 _]) (v2 := .agg #[.int .i32 _, .int .i32 _, .int .i32 _]) ent29 rfl rfl rfl ((edge_top _ _ _ _ _ _ _).mono fun v w hp => ?_))
              obtain ⟨rfl, hp⟩ := hp
              replace hst := hst.keepc hp
              clear hp
              refine RunL.cons (Op1.neqB ty4 rfl rfl ?_)
              refine RunL.cons (Op1.move (v := .bool _) rfl ?_)
              refine RunL.split (d := 71) rfl (fun g37 => ?_) (fun g37 => ?_)
              · skip
                refine RunL.omit (t := 71) rfl (congrArg Value.bool g37) rfl ?_
                refine RunL.cons (Op1.pickT (u := .bool _) (congrArg Value.bool g37) rfl ?_)
                refine RunL.cons (Op1.assign (v := .bool _) rfl ?_)
                refine RunL.nil ?_
                refine run_ret1 Try.func6 rfl (RV.tmp (v := .bool _) rfl) ?_
                refine ⟨congrArg Value.bool ?_, hst.pure⟩
                first | rfl | (have ht := top_eq _ _ _ _ ‹_›; first | exact decide_eq_true ht.2 | (exfalso; omega))
              · skip
                refine RunL.take (t := 71) rfl (congrArg Value.bool g37) (Op1.move (v := .bool _) rfl ?_)
                refine RunL.cons (Op1.pickF (u := .bool _) (congrArg Value.bool g37) rfl ?_)
                refine RunL.cons (Op1.assign (v := .bool _) rfl ?_)
                refine RunL.nil ?_
                refine run_ret1 Try.func6 rfl (RV.tmp (v := .bool _) rfl) ?_
                refine ⟨congrArg Value.bool ?_, hst.pure⟩
                first | rfl | (have ht := top_eq _ _ _ _ ‹_›; first | exact decide_eq_true ht.2 | (exfalso; omega))

end Go.SK
