/-
  Walks of functions, and of the laws over them.
-/
import Derived.Test.YtnbapjkldjhjoaaSkFacts1
import Derived.Test.YtnbapjkldjhjoaaSkEdgeA
import Derived.Test.YtnbapjkldjhjoaaSkEdgeC
import Derived.Test.YtnbapjkldjhjoaaSkEdgeD
import Derived.Test.YtnbapjkldjhjoaaSkJ
set_option linter.unusedVariables false
set_option linter.unusedSimpArgs false
namespace Go.SK
open Go Go.Proofs
open Go.RowKit
theorem law_EdgeCovers (ax ay az bx by_ bz cx cy cz : Int) (x y : Int) (w : World) : Ret Try.prog 8 #[.agg #[.int .i32 ax, .int .i32 ay, .int .i32 az, .int .i32 bx, .int .i32 by_, .int .i32 bz, .int .i32 cx, .int .i32 cy, .int .i32 cz], .int .i64 x, .int .i64 y] w (fun v w' => v = .bool true ∧ St w NoM [] [] w') := by
  refine Ret.enter (args := [.agg #[.int .i32 ax, .int .i32 ay, .int .i32 az, .int .i32 bx, .int .i32 by_, .int .i32 bz, .int .i32 cx, .int .i32 cy, .int .i32 cz], .int .i64 x, .int .i64 y]) Try.func8 rfl rfl rfl ?_
  have hst := St.init w
  refine run_seq ?_
  refine run_region ?_
  refine RunL.cons (Op1.box (v := .agg #[.int .i32 _, .int .i32 _, .int .i32 _, .int .i32 _, .int .i32 _, .int .i32 _, .int .i32 _, .int .i32 _, .int .i32 _]) hst rfl rfl fun w b3 hst => ?_)
  refine RunL.cons (Op1.assign (v := .bool _) rfl ?_)
  refine RunL.nil ?_
  refine run_seq ?_
  refine RunD.start [] hst (bs := [0, 0, 0, 7, 0, 0, 0, 127, 255, 511]) (ds := [some 7, some 8, some 9, some 10, some 11, some 12, some 13, some 14, some 15, some 6]) ⟨by kernel_rfl, by kernel_rfl, by kernel_rfl⟩ (fun tab1 => ?_)
  refine RunD.op (det _) tab1 1 (fun f' L' w' hc => Op1.loadA (vs := [.int .i32 _, .int .i32 _, .int .i32 _, .int .i32 _, .int .i32 _, .int .i32 _, .int .i32 _, .int .i32 _, .int .i32 _]) ty27 rfl (hc.old (v := .pointer (some ⟨_, _, none⟩)) rfl rfl rfl) rfl (cells_of_obj (n := 9) (hc.st.objL (List.mem_append_right _ (.head _))) _ rfl) ⟨[], ⟨rfl, rfl⟩, hc.st⟩) ?_
  refine RunD.op (det _) tab1 2 (fun f' L' w' hc => Op1.move (v := .int .i64 _) (hc.old (v := .int .i64 _) rfl rfl rfl) ⟨[], ⟨rfl, rfl⟩, hc.st⟩) ?_
  refine RunD.op (det _) tab1 3 (fun f' L' w' hc => Op1.move (v := .int .i64 _) (hc.old (v := .int .i64 _) rfl rfl rfl) ⟨[], ⟨rfl, rfl⟩, hc.st⟩) ?_
  refine RunD.op (det _) tab1 4 (fun f' L' w' hc => Op1.call3 (v1 := .agg #[.int .i32 _, .int .i32 _, .int .i32 _, .int .i32 _, .int .i32 _, .int .i32 _, .int .i32 _, .int .i32 _, .int .i32 _]) (v2 := .int .i64 _) (v3 := .int .i64 _) ent34 rfl (hc.det (j := 0) rfl rfl rfl rfl) (hc.det (j := 1) rfl rfl rfl rfl) (hc.det (j := 2) rfl rfl rfl rfl) ((edge_covers _ _ _ _ _ _ _ _ _ _ _ _).mono fun v w hp => ⟨[], ⟨hp.1, rfl⟩, hc.st.keepc hp.2⟩)) ?_
  refine RunD.op (det _) tab1 5 (fun f' L' w' hc => Op1.loadA (vs := [.int .i32 _, .int .i32 _, .int .i32 _, .int .i32 _, .int .i32 _, .int .i32 _, .int .i32 _, .int .i32 _, .int .i32 _]) ty27 rfl (hc.old (v := .pointer (some ⟨_, _, none⟩)) rfl rfl rfl) rfl (cells_of_obj (n := 9) (hc.st.objL (List.mem_append_right _ (.head _))) _ rfl) ⟨[], ⟨rfl, rfl⟩, hc.st⟩) ?_
  refine RunD.op (det _) tab1 6 (fun f' L' w' hc => Op1.move (v := .int .i64 _) (hc.old (v := .int .i64 _) rfl rfl rfl) ⟨[], ⟨rfl, rfl⟩, hc.st⟩) ?_
  refine RunD.op (det _) tab1 7 (fun f' L' w' hc => Op1.move (v := .int .i64 _) (hc.old (v := .int .i64 _) rfl rfl rfl) ⟨[], ⟨rfl, rfl⟩, hc.st⟩) ?_
  refine RunD.fin followsMixed tab1 hst rfl (fun f2 w R5 hs3 hd4 hr6 hst => ?_)
  obtain ⟨h7_, r0⟩ := hd4 0 7 rfl rfl
  obtain ⟨h8_, r1⟩ := hd4 1 8 rfl rfl
  obtain ⟨h9_, r2⟩ := hd4 2 9 rfl rfl
  obtain ⟨h10_, r3⟩ := hd4 3 10 rfl rfl
  obtain ⟨h11_, r4⟩ := hd4 4 11 rfl rfl
  obtain ⟨h12_, r5⟩ := hd4 5 12 rfl rfl
  obtain ⟨h13_, r6⟩ := hd4 6 13 rfl rfl
  simp only [show List.range 7 = [0, 1, 2, 3, 4, 5, 6] from rfl, List.flatMap_cons, List.flatMap_nil, List.map_cons, List.map_nil, r0, r1, r2, r3, r4, r5, r6, List.nil_append, List.append_nil, List.cons_append] at hst
  refine RunL.slots (sl := [(10, .bool _), (11, .agg #[.int .i32 _, .int .i32 _, .int .i32 _, .int .i32 _, .int .i32 _, .int .i32 _, .int .i32 _, .int .i32 _, .int .i32 _]), (12, .int .i64 _), (13, .int .i64 _)]) ⟨h10_, h11_, h12_, h13_, trivial⟩ ?_
  clear hs3 hd4 hr6 tab1
  refine RunL.cons (Op1.call3 (v1 := .agg #[.int .i32 _, .int .i32 _, .int .i32 _, .int .i32 _, .int .i32 _, .int .i32 _, .int .i32 _, .int .i32 _, .int .i32 _]) (v2 := .int .i64 _) (v3 := .int .i64 _) ent35 rfl rfl rfl rfl ((ref_covers _ _ _ _ _ _ _ _ _ _ _ _).mono fun v w hp => ?_))
  obtain ⟨rfl, hp⟩ := hp
  replace hst := hst.keepc hp
  clear hp
  refine RunL.cons (Op1.eqlB ty4 rfl rfl ?_)
  refine RunL.cons (Op1.assign (v := .bool _) rfl ?_)
  refine RunL.nil ?_
  refine run_ret1 Try.func8 rfl (RV.tmp (v := .bool _) rfl) ?_
  exact ⟨congrArg Value.bool (by simp), hst.pure⟩

theorem law27_whole  (w : World) : Ret Try.prog 36 #[] w (fun v w' => v = .bool true ∧ St w NoM [] [] w') := by
  refine Ret.enter (args := []) Try.func36 rfl rfl rfl ?_
  have hst := St.init w
  refine run_seq ?_
  refine run_region ?_
  refine RunL.cons (Op1.assign (v := .bool _) rfl ?_)
  refine RunL.nil ?_
  refine run_seq ?_
  refine run_region ?_
  refine RunL.cons (Op1.buildStruct ty25 stf25 (.cons rfl (v := .int .i32 _) rfl rfl rfl rfl (by repeat (first | exact Put.nil | apply Put.put | apply Put.skip)) (.cons rfl (v := .int .i32 _) rfl rfl rfl rfl (by repeat (first | exact Put.nil | apply Put.put | apply Put.skip)) .nil)) ?_)
  refine RunL.cons (Op1.buildStruct ty25 stf25 (.cons rfl (v := .int .i32 _) rfl rfl rfl rfl (by repeat (first | exact Put.nil | apply Put.put | apply Put.skip)) (.cons rfl (v := .int .i32 _) rfl rfl rfl rfl (by repeat (first | exact Put.nil | apply Put.put | apply Put.skip)) .nil)) ?_)
  refine RunL.cons (Op1.buildStruct ty25 stf25 (.cons rfl (v := .int .i32 _) rfl rfl rfl rfl (by repeat (first | exact Put.nil | apply Put.put | apply Put.skip)) (.cons rfl (v := .int .i32 _) rfl rfl rfl rfl (by repeat (first | exact Put.nil | apply Put.put | apply Put.skip)) .nil)) ?_)
  refine RunL.cons (Op1.buildArr ty27 ty25 (.cons rfl (v := .agg #[.int .i32 _, .int .i32 _, .int .i32 _]) rfl rfl rfl rfl (by repeat (first | exact Put.nil | apply Put.put | apply Put.skip)) (.cons rfl (v := .agg #[.int .i32 _, .int .i32 _, .int .i32 _]) rfl rfl rfl rfl (by repeat (first | exact Put.nil | apply Put.put | apply Put.skip)) (.cons rfl (v := .agg #[.int .i32 _, .int .i32 _, .int .i32 _]) rfl rfl rfl rfl (by repeat (first | exact Put.nil | apply Put.put | apply Put.skip)) .nil))) ?_)
  refine RunL.cons (Op1.alloc hst ty27 fun w b1 hst => ?_)
  refine RunL.cons (Op1.store (v := .agg #[.int .i32 _, .int .i32 _, .int .i32 _, .int .i32 _, .int .i32 _, .int .i32 _, .int .i32 _, .int .i32 _, .int .i32 _]) hst ty27 rfl rfl rfl rfl rfl (.here) (by repeat (first | exact Put.nil | apply Put.put | apply Put.skip)) fun w hst => ?_)
  refine RunL.nil ?_
  refine run_seq ?_
  refine run_region ?_
  refine RunL.cons (Op1.loadA (vs := [.int .i32 _, .int .i32 _, .int .i32 _, .int .i32 _, .int .i32 _, .int .i32 _, .int .i32 _, .int .i32 _, .int .i32 _]) ty27 rfl rfl rfl (cells_of_obj (n := 9) (hst.objL (.head _)) _ rfl) ?_)
  refine RunL.cons (Op1.call3 (v1 := .agg #[.int .i32 _, .int .i32 _, .int .i32 _, .int .i32 _, .int .i32 _, .int .i32 _, .int .i32 _, .int .i32 _, .int .i32 _]) (v2 := .int .i64 _) (v3 := .int .i64 _) ent34 rfl rfl rfl rfl ((edge_covers _ _ _ _ _ _ _ _ _ _ _ _).mono fun v w hp => ?_))
  obtain ⟨rfl, hp⟩ := hp
  replace hst := hst.keepc hp
  clear hp
  refine RunL.cons (Op1.move (v := .bool _) rfl ?_)
  refine RunL.split (d := 8) rfl (fun g1 => ?_) (fun g1 => ?_)
  · skip
    refine RunL.take (t := 8) rfl (congrArg Value.bool g1) (Op1.loadA (vs := [.int .i32 _, .int .i32 _, .int .i32 _, .int .i32 _, .int .i32 _, .int .i32 _, .int .i32 _, .int .i32 _, .int .i32 _]) ty27 rfl rfl rfl (cells_of_obj (n := 9) (hst.objL (.head _)) _ rfl) ?_)
    refine RunL.take (t := 8) rfl (congrArg Value.bool g1) (Op1.call3 (v1 := .agg #[.int .i32 _, .int .i32 _, .int .i32 _, .int .i32 _, .int .i32 _, .int .i32 _, .int .i32 _, .int .i32 _, .int .i32 _]) (v2 := .int .i64 _) (v3 := .int .i64 _) ent34 rfl rfl rfl rfl ((edge_covers _ _ _ _ _ _ _ _ _ _ _ _).mono fun v w hp => ?_))
    obtain ⟨rfl, hp⟩ := hp
    replace hst := hst.keepc hp
    clear hp
    refine RunL.take (t := 8) rfl (congrArg Value.bool g1) (Op1.not rfl ?_)
    refine RunL.cons (Op1.pickT (u := .bool _) (congrArg Value.bool g1) rfl ?_)
    refine RunL.cons (Op1.assign (v := .bool _) rfl ?_)
    refine RunL.nil ?_
    refine run_ret1 Try.func36 rfl (RV.tmp (v := .bool _) rfl) ?_
    exact ⟨congrArg Value.bool (by decide +kernel), hst.pure⟩
  · skip
    exfalso
    exact absurd g1 (by decide +kernel)

theorem law27_between (x a b : Int) (w : World) : Ret Try.prog 37 #[.int .i64 x, .int .i64 a, .int .i64 b] w (fun v w' => v = .bool (decide ((a ≤ x ∧ x ≤ b) ∨ (b ≤ x ∧ x ≤ a))) ∧ St w NoM [] [] w') := by
  refine Ret.enter (args := [.int .i64 x, .int .i64 a, .int .i64 b]) Try.func37 rfl rfl rfl ?_
  have hst := St.init w
  refine run_seq ?_
  refine run_region ?_
  refine RunL.cons (Op1.assign (v := .bool _) rfl ?_)
  refine RunL.nil ?_
  refine run_seq ?_
  refine run_region ?_
  refine RunL.cons (Op1.move (v := .int .i64 _) rfl ?_)
  refine RunL.cons (Op1.move (v := .int .i64 _) rfl ?_)
  refine RunL.cons (Op1.leq rfl rfl ?_)
  refine RunL.cons (Op1.move (v := .bool _) rfl ?_)
  refine RunL.splitD (d := 10) rfl (fun g1 => ?_) (fun g1 => ?_)
  · skip
    refine RunL.take (t := 10) rfl (congrArg Value.bool (decide_eq_true g1)) (Op1.move (v := .int .i64 _) rfl ?_)
    refine RunL.take (t := 10) rfl (congrArg Value.bool (decide_eq_true g1)) (Op1.move (v := .int .i64 _) rfl ?_)
    refine RunL.take (t := 10) rfl (congrArg Value.bool (decide_eq_true g1)) (Op1.leq rfl rfl ?_)
    refine RunL.cons (Op1.pickT (u := .bool _) (congrArg Value.bool (decide_eq_true g1)) rfl ?_)
    refine RunL.cons (Op1.move (v := .bool _) rfl ?_)
    refine RunL.splitD (d := 15) rfl (fun g2 => ?_) (fun g2 => ?_)
    · skip
      refine RunL.omit (t := 15) rfl (congrArg Value.bool (decide_eq_true g2)) rfl ?_
      refine RunL.omit (t := 15) rfl (congrArg Value.bool (decide_eq_true g2)) rfl ?_
      refine RunL.omit (t := 15) rfl (congrArg Value.bool (decide_eq_true g2)) rfl ?_
      refine RunL.omit (t := 15) rfl (congrArg Value.bool (decide_eq_true g2)) rfl ?_
      refine RunL.omitU (t := 19) rfl rfl ?_
      refine RunL.omitU (t := 19) rfl rfl ?_
      refine RunL.omitU (t := 19) rfl rfl ?_
      refine RunL.omit (t := 15) rfl (congrArg Value.bool (decide_eq_true g2)) rfl ?_
      refine RunL.cons (Op1.pickT (u := .bool _) (congrArg Value.bool (decide_eq_true g2)) rfl ?_)
      refine RunL.cons (Op1.assign (v := .bool _) rfl ?_)
      refine RunL.nil ?_
      refine run_ret1 Try.func37 rfl (RV.tmp (v := .bool _) rfl) ?_
      refine ⟨congrArg Value.bool ?_, hst.pure⟩
      first | (rw [decide_eq_decide]; omega) | exact (decide_eq_false (by omega)).symm | exact (decide_eq_true (by omega)).symm
    · skip
      refine RunL.take (t := 15) rfl (congrArg Value.bool (decide_eq_false g2)) (Op1.move (v := .int .i64 _) rfl ?_)
      refine RunL.take (t := 15) rfl (congrArg Value.bool (decide_eq_false g2)) (Op1.move (v := .int .i64 _) rfl ?_)
      refine RunL.take (t := 15) rfl (congrArg Value.bool (decide_eq_false g2)) (Op1.leq rfl rfl ?_)
      refine RunL.take (t := 15) rfl (congrArg Value.bool (decide_eq_false g2)) (Op1.move (v := .bool _) rfl ?_)
      refine RunL.splitD (d := 19) rfl (fun g3 => ?_) (fun g3 => ?_)
      · skip
        refine RunL.take (t := 19) rfl (congrArg Value.bool (decide_eq_true g3)) (Op1.move (v := .int .i64 _) rfl ?_)
        refine RunL.take (t := 19) rfl (congrArg Value.bool (decide_eq_true g3)) (Op1.move (v := .int .i64 _) rfl ?_)
        refine RunL.take (t := 19) rfl (congrArg Value.bool (decide_eq_true g3)) (Op1.leq rfl rfl ?_)
        refine RunL.take (t := 15) rfl (congrArg Value.bool (decide_eq_false g2)) (Op1.pickT (u := .bool _) (congrArg Value.bool (decide_eq_true g3)) rfl ?_)
        refine RunL.cons (Op1.pickF (u := .bool _) (congrArg Value.bool (decide_eq_false g2)) rfl ?_)
        refine RunL.cons (Op1.assign (v := .bool _) rfl ?_)
        refine RunL.nil ?_
        refine run_ret1 Try.func37 rfl (RV.tmp (v := .bool _) rfl) ?_
        refine ⟨congrArg Value.bool ?_, hst.pure⟩
        first | (rw [decide_eq_decide]; omega) | exact (decide_eq_false (by omega)).symm | exact (decide_eq_true (by omega)).symm
      · skip
        refine RunL.omit (t := 19) rfl (congrArg Value.bool (decide_eq_false g3)) rfl ?_
        refine RunL.omit (t := 19) rfl (congrArg Value.bool (decide_eq_false g3)) rfl ?_
        refine RunL.omit (t := 19) rfl (congrArg Value.bool (decide_eq_false g3)) rfl ?_
        refine RunL.take (t := 15) rfl (congrArg Value.bool (decide_eq_false g2)) (Op1.pickF (u := .bool _) (congrArg Value.bool (decide_eq_false g3)) rfl ?_)
        refine RunL.cons (Op1.pickF (u := .bool _) (congrArg Value.bool (decide_eq_false g2)) rfl ?_)
        refine RunL.cons (Op1.assign (v := .bool _) rfl ?_)
        refine RunL.nil ?_
        refine run_ret1 Try.func37 rfl (RV.tmp (v := .bool _) rfl) ?_
        refine ⟨congrArg Value.bool ?_, hst.pure⟩
        first | (rw [decide_eq_decide]; omega) | exact (decide_eq_false (by omega)).symm | exact (decide_eq_true (by omega)).symm
  · skip
    refine RunL.omit (t := 10) rfl (congrArg Value.bool (decide_eq_false g1)) rfl ?_
    refine RunL.omit (t := 10) rfl (congrArg Value.bool (decide_eq_false g1)) rfl ?_
    refine RunL.omit (t := 10) rfl (congrArg Value.bool (decide_eq_false g1)) rfl ?_
    refine RunL.cons (Op1.pickF (u := .bool _) (congrArg Value.bool (decide_eq_false g1)) rfl ?_)
    refine RunL.cons (Op1.move (v := .bool _) rfl ?_)
    refine RunL.take (t := 15) rfl (congrArg Value.bool (rfl : false = _)) (Op1.move (v := .int .i64 _) rfl ?_)
    refine RunL.take (t := 15) rfl (congrArg Value.bool (rfl : false = _)) (Op1.move (v := .int .i64 _) rfl ?_)
    refine RunL.take (t := 15) rfl (congrArg Value.bool (rfl : false = _)) (Op1.leq rfl rfl ?_)
    refine RunL.take (t := 15) rfl (congrArg Value.bool (rfl : false = _)) (Op1.move (v := .bool _) rfl ?_)
    refine RunL.splitD (d := 19) rfl (fun g4 => ?_) (fun g4 => ?_)
    · skip
      refine RunL.take (t := 19) rfl (congrArg Value.bool (decide_eq_true g4)) (Op1.move (v := .int .i64 _) rfl ?_)
      refine RunL.take (t := 19) rfl (congrArg Value.bool (decide_eq_true g4)) (Op1.move (v := .int .i64 _) rfl ?_)
      refine RunL.take (t := 19) rfl (congrArg Value.bool (decide_eq_true g4)) (Op1.leq rfl rfl ?_)
      refine RunL.take (t := 15) rfl (congrArg Value.bool (rfl : false = _)) (Op1.pickT (u := .bool _) (congrArg Value.bool (decide_eq_true g4)) rfl ?_)
      refine RunL.cons (Op1.pickF (u := .bool _) (congrArg Value.bool (rfl : false = _)) rfl ?_)
      refine RunL.cons (Op1.assign (v := .bool _) rfl ?_)
      refine RunL.nil ?_
      refine run_ret1 Try.func37 rfl (RV.tmp (v := .bool _) rfl) ?_
      refine ⟨congrArg Value.bool ?_, hst.pure⟩
      first | (rw [decide_eq_decide]; omega) | exact (decide_eq_false (by omega)).symm | exact (decide_eq_true (by omega)).symm
    · skip
      refine RunL.omit (t := 19) rfl (congrArg Value.bool (decide_eq_false g4)) rfl ?_
      refine RunL.omit (t := 19) rfl (congrArg Value.bool (decide_eq_false g4)) rfl ?_
      refine RunL.omit (t := 19) rfl (congrArg Value.bool (decide_eq_false g4)) rfl ?_
      refine RunL.take (t := 15) rfl (congrArg Value.bool (rfl : false = _)) (Op1.pickF (u := .bool _) (congrArg Value.bool (decide_eq_false g4)) rfl ?_)
      refine RunL.cons (Op1.pickF (u := .bool _) (congrArg Value.bool (rfl : false = _)) rfl ?_)
      refine RunL.cons (Op1.assign (v := .bool _) rfl ?_)
      refine RunL.nil ?_
      refine run_ret1 Try.func37 rfl (RV.tmp (v := .bool _) rfl) ?_
      refine ⟨congrArg Value.bool ?_, hst.pure⟩
      first | (rw [decide_eq_decide]; omega) | exact (decide_eq_false (by omega)).symm | exact (decide_eq_true (by omega)).symm

theorem in3_rot (a b c d e f x y : Int) : in3 c d e f a b x y = in3 a b c d e f x y := by
  unfold in3; generalize inZ a b c d x y = p; generalize inZ c d e f x y = q; generalize inZ e f a b x y = r; cases p <;> cases q <;> cases r <;> rfl
theorem side_rot3 (a b c d e f : Int) : sideZ c d e f a b = sideZ a b c d e f := by unfold sideZ; grind
theorem side_flip (a b c d e f : Int) : sideZ c d a b e f = - sideZ a b c d e f := by unfold sideZ; grind
theorem covers_turn (a b c d e f x y : Int) : coversZ c d e f a b x y = coversZ a b c d e f x y := by
  unfold coversZ; rw [side_rot3, in3_rot a b c d e f, in3_rot e f c d a b, in3_rot a b e f c d]
theorem covers_flip (a b c d e f x y : Int) : coversZ c d a b e f x y = coversZ a b c d e f x y := by
  unfold coversZ; rw [side_flip, in3_rot a b c d e f, in3_rot e f c d a b, in3_rot a b e f c d]
  by_cases h : x < 0 ∨ y < 0 ∨ 1024 ≤ x ∨ 1024 ≤ y
  · rw [if_pos h, if_pos h]
  · rw [if_neg h, if_neg h]
    by_cases h0 : sideZ a b c d e f = 0
    · rw [if_pos (by omega), if_pos h0]
    · rw [if_neg (by omega), if_neg h0]
      by_cases h1 : sideZ a b c d e f < 0
      · rw [if_neg (by omega), if_pos h1]
      · rw [if_pos (by omega), if_neg h1]
theorem law_EdgeTurned (ax ay az bx by_ bz cx cy cz : Int) (x y : Int) (w : World) : Ret Try.prog 9 #[.agg #[.int .i32 ax, .int .i32 ay, .int .i32 az, .int .i32 bx, .int .i32 by_, .int .i32 bz, .int .i32 cx, .int .i32 cy, .int .i32 cz], .int .i64 x, .int .i64 y] w (fun v w' => v = .bool true ∧ St w NoM [] [] w') := by
  refine Ret.enter (args := [.agg #[.int .i32 ax, .int .i32 ay, .int .i32 az, .int .i32 bx, .int .i32 by_, .int .i32 bz, .int .i32 cx, .int .i32 cy, .int .i32 cz], .int .i64 x, .int .i64 y]) Try.func9 rfl rfl rfl ?_
  have hst := St.init w
  have bt := sideC_bd bx by_ cx cy ax ay
  have bs := sideC_bd ax ay bx by_ cx cy
  refine run_seq ?_
  refine run_region ?_
  refine RunL.cons (Op1.box (v := .agg #[.int .i32 _, .int .i32 _, .int .i32 _, .int .i32 _, .int .i32 _, .int .i32 _, .int .i32 _, .int .i32 _, .int .i32 _]) hst rfl rfl fun w b3 hst => ?_)
  refine RunL.cons (Op1.assign (v := .bool _) rfl ?_)
  refine RunL.nil ?_
  refine run_seq ?_
  refine run_region ?_
  refine RunL.cons (Op1.loadA (vs := [.int .i32 _, .int .i32 _, .int .i32 _, .int .i32 _, .int .i32 _, .int .i32 _, .int .i32 _, .int .i32 _, .int .i32 _]) ty27 rfl rfl rfl (cells_of_obj (n := 9) (hst.objL (.head _)) _ rfl) ?_)
  refine RunL.cons (Op1.move (v := .int .i64 _) rfl ?_)
  refine RunL.cons (Op1.move (v := .int .i64 _) rfl ?_)
  refine RunL.cons (Op1.call3 (v1 := .agg #[.int .i32 _, .int .i32 _, .int .i32 _, .int .i32 _, .int .i32 _, .int .i32 _, .int .i32 _, .int .i32 _, .int .i32 _]) (v2 := .int .i64 _) (v3 := .int .i64 _) ent34 rfl rfl rfl rfl ((edge_covers _ _ _ _ _ _ _ _ _ _ _ _).mono fun v w hp => ?_))
  obtain ⟨rfl, hp⟩ := hp
  replace hst := hst.keepc hp
  clear hp
  refine RunL.cons (Op1.assign (v := .bool _) rfl ?_)
  refine RunL.nil ?_
  refine run_seq ?_
  refine run_region ?_
  refine RunL.cons (Op1.indexArr ty27 ty25 rfl rfl (by decide) (by decide) ?_)
  refine RunL.cons (Op1.loadA (vs := [.int .i32 _, .int .i32 _, .int .i32 _]) ty25 rfl rfl rfl (cells_of_obj (n := 3) (hst.objL (.head _)) _ rfl) ?_)
  refine RunL.cons (Op1.indexArr ty27 ty25 rfl rfl (by decide) (by decide) ?_)
  refine RunL.cons (Op1.loadA (vs := [.int .i32 _, .int .i32 _, .int .i32 _]) ty25 rfl rfl rfl (cells_of_obj (n := 3) (hst.objL (.head _)) _ rfl) ?_)
  refine RunL.cons (Op1.indexArr ty27 ty25 rfl rfl (by decide) (by decide) ?_)
  refine RunL.cons (Op1.loadA (vs := [.int .i32 _, .int .i32 _, .int .i32 _]) ty25 rfl rfl rfl (cells_of_obj (n := 3) (hst.objL (.head _)) _ rfl) ?_)
  refine RunL.cons (Op1.buildArr ty27 ty25 (.cons rfl (v := .agg #[.int .i32 _, .int .i32 _, .int .i32 _]) rfl rfl rfl rfl (by repeat (first | exact Put.nil | apply Put.put | apply Put.skip)) (.cons rfl (v := .agg #[.int .i32 _, .int .i32 _, .int .i32 _]) rfl rfl rfl rfl (by repeat (first | exact Put.nil | apply Put.put | apply Put.skip)) (.cons rfl (v := .agg #[.int .i32 _, .int .i32 _, .int .i32 _]) rfl rfl rfl rfl (by repeat (first | exact Put.nil | apply Put.put | apply Put.skip)) .nil))) ?_)
  refine RunL.cons (Op1.alloc hst ty27 fun w b8 hst => ?_)
  refine RunL.cons (Op1.store (v := .agg #[.int .i32 _, .int .i32 _, .int .i32 _, .int .i32 _, .int .i32 _, .int .i32 _, .int .i32 _, .int .i32 _, .int .i32 _]) hst ty27 rfl rfl rfl rfl rfl (.here) (by repeat (first | exact Put.nil | apply Put.put | apply Put.skip)) fun w hst => ?_)
  refine RunL.nil ?_
  refine run_seq ?_
  refine run_region ?_
  refine RunL.cons (Op1.indexArr ty27 ty25 rfl rfl (by decide) (by decide) ?_)
  refine RunL.cons (Op1.loadA (vs := [.int .i32 _, .int .i32 _, .int .i32 _]) ty25 rfl rfl rfl (cells_of_obj (n := 3) (hst.objL (.tail _ (.head _))) _ rfl) ?_)
  refine RunL.cons (Op1.indexArr ty27 ty25 rfl rfl (by decide) (by decide) ?_)
  refine RunL.cons (Op1.loadA (vs := [.int .i32 _, .int .i32 _, .int .i32 _]) ty25 rfl rfl rfl (cells_of_obj (n := 3) (hst.objL (.tail _ (.head _))) _ rfl) ?_)
  refine RunL.cons (Op1.indexArr ty27 ty25 rfl rfl (by decide) (by decide) ?_)
  refine RunL.cons (Op1.loadA (vs := [.int .i32 _, .int .i32 _, .int .i32 _]) ty25 rfl rfl rfl (cells_of_obj (n := 3) (hst.objL (.tail _ (.head _))) _ rfl) ?_)
  refine RunL.cons (Op1.buildArr ty27 ty25 (.cons rfl (v := .agg #[.int .i32 _, .int .i32 _, .int .i32 _]) rfl rfl rfl rfl (by repeat (first | exact Put.nil | apply Put.put | apply Put.skip)) (.cons rfl (v := .agg #[.int .i32 _, .int .i32 _, .int .i32 _]) rfl rfl rfl rfl (by repeat (first | exact Put.nil | apply Put.put | apply Put.skip)) (.cons rfl (v := .agg #[.int .i32 _, .int .i32 _, .int .i32 _]) rfl rfl rfl rfl (by repeat (first | exact Put.nil | apply Put.put | apply Put.skip)) .nil))) ?_)
  refine RunL.cons (Op1.alloc hst ty27 fun w b9 hst => ?_)
  refine RunL.cons (Op1.store (v := .agg #[.int .i32 _, .int .i32 _, .int .i32 _, .int .i32 _, .int .i32 _, .int .i32 _, .int .i32 _, .int .i32 _, .int .i32 _]) hst ty27 rfl rfl rfl rfl rfl (.here) (by repeat (first | exact Put.nil | apply Put.put | apply Put.skip)) fun w hst => ?_)
  refine RunL.nil ?_
  refine run_seq ?_
  refine run_region ?_
  refine RunL.cons (Op1.loadA (vs := [.int .i32 _, .int .i32 _, .int .i32 _, .int .i32 _, .int .i32 _, .int .i32 _, .int .i32 _, .int .i32 _, .int .i32 _]) ty27 rfl rfl rfl (cells_of_obj (n := 9) (hst.objL (.tail _ (.tail _ (.head _)))) _ rfl) ?_)
  refine RunL.cons (Op1.alloc hst ty27 fun w b10 hst => ?_)
  refine RunL.cons (Op1.store (v := .agg #[.int .i32 _, .int .i32 _, .int .i32 _, .int .i32 _, .int .i32 _, .int .i32 _, .int .i32 _, .int .i32 _, .int .i32 _]) hst ty27 rfl rfl rfl rfl rfl (.here) (by repeat (first | exact Put.nil | apply Put.put | apply Put.skip)) fun w hst => ?_)
  refine RunL.nil ?_
  refine run_seq ?_
  refine run_region ?_
  refine RunL.cons (Op1.indexArr ty27 ty25 rfl rfl (by decide) (by decide) ?_)
  refine RunL.cons (Op1.fieldAddr fld25_2 rfl ?_)
  refine RunL.cons (Op1.store (v := .int .i32 _) hst ty21 rfl rfl rfl rfl rfl (.here) (by repeat (first | exact Put.nil | apply Put.put | apply Put.skip)) fun w hst => ?_)
  refine RunL.nil ?_
  refine run_seq ?_
  refine run_region ?_
  refine RunL.cons (Op1.indexArr ty27 ty25 rfl rfl (by decide) (by decide) ?_)
  refine RunL.cons (Op1.fieldAddr fld25_2 rfl ?_)
  refine RunL.cons (Op1.store (v := .int .i32 _) hst ty21 rfl rfl rfl rfl rfl (.here) (by repeat (first | exact Put.nil | apply Put.put | apply Put.skip)) fun w hst => ?_)
  refine RunL.nil ?_
  refine run_seq ?_
  refine run_seq ?_
  refine run_region ?_
  refine RunL.cons (Op1.loadA (vs := [.int .i32 _, .int .i32 _, .int .i32 _, .int .i32 _, .int .i32 _, .int .i32 _, .int .i32 _, .int .i32 _, .int .i32 _]) ty27 rfl rfl rfl (cells_of_obj (n := 9) (hst.objL (.tail _ (.tail _ (.head _)))) _ rfl) ?_)
  refine RunL.cons (Op1.move (v := .int .i64 _) rfl ?_)
  refine RunL.cons (Op1.move (v := .int .i64 _) rfl ?_)
  refine RunL.cons (Op1.call3 (v1 := .agg #[.int .i32 _, .int .i32 _, .int .i32 _, .int .i32 _, .int .i32 _, .int .i32 _, .int .i32 _, .int .i32 _, .int .i32 _]) (v2 := .int .i64 _) (v3 := .int .i64 _) ent34 rfl rfl rfl rfl ((edge_covers _ _ _ _ _ _ _ _ _ _ _ _).mono fun v w hp => ?_))
  obtain ⟨rfl, hp⟩ := hp
  replace hst := hst.keepc hp
  clear hp
  refine RunL.cons (Op1.move (v := .bool _) rfl ?_)
  refine RunL.cons (Op1.neqB ty4 rfl rfl ?_)
  refine RunL.cons (Op1.move (v := .bool _) rfl ?_)
  refine RunL.split (d := 40) rfl (fun g1 => ?_) (fun g1 => ?_)
  · skip
    exfalso
    rw [covers_turn] at g1; simp at g1
  · skip
    refine RunL.take (t := 40) rfl (congrArg Value.bool g1) (Op1.loadA (vs := [.int .i32 _, .int .i32 _, .int .i32 _, .int .i32 _, .int .i32 _, .int .i32 _, .int .i32 _, .int .i32 _, .int .i32 _]) ty27 rfl rfl rfl (cells_of_obj (n := 9) (hst.objL (.tail _ (.head _))) _ rfl) ?_)
    refine RunL.take (t := 40) rfl (congrArg Value.bool g1) (Op1.move (v := .int .i64 _) rfl ?_)
    refine RunL.take (t := 40) rfl (congrArg Value.bool g1) (Op1.move (v := .int .i64 _) rfl ?_)
    refine RunL.take (t := 40) rfl (congrArg Value.bool g1) (Op1.call3 (v1 := .agg #[.int .i32 _, .int .i32 _, .int .i32 _, .int .i32 _, .int .i32 _, .int .i32 _, .int .i32 _, .int .i32 _, .int .i32 _]) (v2 := .int .i64 _) (v3 := .int .i64 _) ent34 rfl rfl rfl rfl ((edge_covers _ _ _ _ _ _ _ _ _ _ _ _).mono fun v w hp => ?_))
    obtain ⟨rfl, hp⟩ := hp
    replace hst := hst.keepc hp
    clear hp
    refine RunL.take (t := 40) rfl (congrArg Value.bool g1) (Op1.move (v := .bool _) rfl ?_)
    refine RunL.take (t := 40) rfl (congrArg Value.bool g1) (Op1.neqB ty4 rfl rfl ?_)
    refine RunL.cons (Op1.pickF (u := .bool _) (congrArg Value.bool g1) rfl ?_)
    refine RunL.cons (Op1.move (v := .bool _) rfl ?_)
    refine RunL.split (d := 48) rfl (fun g2 => ?_) (fun g2 => ?_)
    · skip
      exfalso
      rw [covers_flip] at g2; simp at g2
    · skip
      refine RunL.take (t := 48) rfl (congrArg Value.bool g2) (Op1.loadA (vs := [.int .i32 _, .int .i32 _, .int .i32 _, .int .i32 _, .int .i32 _, .int .i32 _, .int .i32 _, .int .i32 _, .int .i32 _]) ty27 rfl rfl rfl (cells_of_obj (n := 9) (hst.objL (.head _)) _ rfl) ?_)
      refine RunL.take (t := 48) rfl (congrArg Value.bool g2) (Op1.move (v := .int .i64 _) rfl ?_)
      refine RunL.take (t := 48) rfl (congrArg Value.bool g2) (Op1.move (v := .int .i64 _) rfl ?_)
      refine RunL.take (t := 48) rfl (congrArg Value.bool g2) (Op1.call3 (v1 := .agg #[.int .i32 _, .int .i32 _, .int .i32 _, .int .i32 _, .int .i32 _, .int .i32 _, .int .i32 _, .int .i32 _, .int .i32 _]) (v2 := .int .i64 _) (v3 := .int .i64 _) ent34 rfl rfl rfl rfl ((edge_covers _ _ _ _ _ _ _ _ _ _ _ _).mono fun v w hp => ?_))
      obtain ⟨rfl, hp⟩ := hp
      replace hst := hst.keepc hp
      clear hp
      refine RunL.take (t := 48) rfl (congrArg Value.bool g2) (Op1.move (v := .bool _) rfl ?_)
      refine RunL.take (t := 48) rfl (congrArg Value.bool g2) (Op1.neqB ty4 rfl rfl ?_)
      refine RunL.cons (Op1.pickF (u := .bool _) (congrArg Value.bool g2) rfl ?_)
      refine RunL.nil ?_
      refine run_cond_split rfl (fun g3 => ?_) (fun g3 => ?_)
      · skip
        exfalso
        simp at g3
      · skip
        refine run_skip ?_
        refine run_seq ?_
        refine RunD.start [] hst (bs := [0, 1, 0, 7, 15, 31, 63, 127, 63, 511, 1023, 2047, 4095, 8191, 16383, 32767, 65535, 131071, 262143, 524287, 1048575, 2097151, 4194303, 8388607, 16777215, 33554431]) (ds := [some 56, some 57, some 58, some 59, some 60, some 61, some 62, some 63, some 64, some 65, some 66, some 67, some 68, some 69, some 70, some 71, some 72, some 73, some 74, some 75, some 76, some 77, some 78, some 79, some 80, some 6]) ⟨by kernel_rfl, by kernel_rfl, by kernel_rfl⟩ (fun tab4 => ?_)
        refine RunD.op (det _) tab4 1 (fun f' L' w' hc => Op1.loadA (vs := [.int .i32 _, .int .i32 _, .int .i32 _, .int .i32 _, .int .i32 _, .int .i32 _, .int .i32 _, .int .i32 _, .int .i32 _]) ty27 rfl (hc.old (v := .pointer (some ⟨_, _, none⟩)) rfl rfl rfl) rfl (cells_of_obj (n := 9) (hc.st.objL (List.mem_append_right _ (.tail _ (.tail _ (.head _))))) _ rfl) ⟨[], ⟨rfl, rfl⟩, hc.st⟩) ?_
        refine RunD.op (det _) tab4 2 (fun f' L' w' hc => Op1.call1 (v1 := .agg #[.int .i32 _, .int .i32 _, .int .i32 _, .int .i32 _, .int .i32 _, .int .i32 _, .int .i32 _, .int .i32 _, .int .i32 _]) ent23 rfl (hc.det (j := 0) rfl rfl rfl rfl) ((edge_area _ _ _ _ _ _ _ _ _ _).mono fun v w hp => ⟨[], ⟨hp.1, rfl⟩, hc.st.keepc hp.2⟩)) ?_
        refine RunD.op (det _) tab4 3 (fun f' L' w' hc => Op1.loadA (vs := [.int .i32 _, .int .i32 _, .int .i32 _, .int .i32 _, .int .i32 _, .int .i32 _, .int .i32 _, .int .i32 _, .int .i32 _]) ty27 rfl (hc.old (v := .pointer (some ⟨_, _, none⟩)) rfl rfl rfl) rfl (cells_of_obj (n := 9) (hc.st.objL (List.mem_append_right _ (.tail _ (.tail _ (.tail _ (.head _)))))) _ rfl) ⟨[], ⟨rfl, rfl⟩, hc.st⟩) ?_
        refine RunD.op (det _) tab4 4 (fun f' L' w' hc => Op1.call1 (v1 := .agg #[.int .i32 _, .int .i32 _, .int .i32 _, .int .i32 _, .int .i32 _, .int .i32 _, .int .i32 _, .int .i32 _, .int .i32 _]) ent23 rfl (hc.det (j := 2) rfl rfl rfl rfl) ((edge_area _ _ _ _ _ _ _ _ _ _).mono fun v w hp => ⟨[], ⟨hp.1, rfl⟩, hc.st.keepc hp.2⟩)) ?_
        refine RunD.op (det _) tab4 5 (fun f' L' w' hc => Op1.eql (hc.det (j := 1) rfl rfl rfl rfl) (hc.det (j := 3) rfl rfl rfl rfl) ⟨[], ⟨rfl, rfl⟩, hc.st⟩) ?_
        refine RunD.op (det _) tab4 6 (fun f' L' w' hc => Op1.move (v := .bool _) (hc.det (j := 4) rfl rfl rfl rfl) ⟨[], ⟨rfl, rfl⟩, hc.st⟩) ?_
        refine RunD.splitD (j := 5) rfl (fun g5 => ?_) (fun g5 => ?_)
        · skip
          refine RunD.take (det _) tab4 7 rfl (fun f' L' w' hc => (hc.det (j := 5) rfl rfl rfl rfl).trans (congrArg Value.bool (decide_eq_true g5))) (fun f' L' w' hc => Op1.loadA (vs := [.int .i32 _, .int .i32 _, .int .i32 _, .int .i32 _, .int .i32 _, .int .i32 _, .int .i32 _, .int .i32 _, .int .i32 _]) ty27 rfl (hc.old (v := .pointer (some ⟨_, _, none⟩)) rfl rfl rfl) rfl (cells_of_obj (n := 9) (hc.st.objL (List.mem_append_right _ (.tail _ (.head _)))) _ rfl) ⟨[], ⟨rfl, rfl⟩, hc.st⟩) ?_
          refine RunD.take (det _) tab4 8 rfl (fun f' L' w' hc => (hc.det (j := 5) rfl rfl rfl rfl).trans (congrArg Value.bool (decide_eq_true g5))) (fun f' L' w' hc => Op1.call1 (v1 := .agg #[.int .i32 _, .int .i32 _, .int .i32 _, .int .i32 _, .int .i32 _, .int .i32 _, .int .i32 _, .int .i32 _, .int .i32 _]) ent23 rfl (hc.det (j := 6) rfl rfl rfl rfl) ((edge_area _ _ _ _ _ _ _ _ _ _).mono fun v w hp => ⟨[], ⟨hp.1, rfl⟩, hc.st.keepc hp.2⟩)) ?_
          refine RunD.take (det _) tab4 9 rfl (fun f' L' w' hc => (hc.det (j := 5) rfl rfl rfl rfl).trans (congrArg Value.bool (decide_eq_true g5))) (fun f' L' w' hc => Op1.loadA (vs := [.int .i32 _, .int .i32 _, .int .i32 _, .int .i32 _, .int .i32 _, .int .i32 _, .int .i32 _, .int .i32 _, .int .i32 _]) ty27 rfl (hc.old (v := .pointer (some ⟨_, _, none⟩)) rfl rfl rfl) rfl (cells_of_obj (n := 9) (hc.st.objL (List.mem_append_right _ (.tail _ (.tail _ (.tail _ (.head _)))))) _ rfl) ⟨[], ⟨rfl, rfl⟩, hc.st⟩) ?_
          refine RunD.fin followsMixed tab4 hst rfl (fun f6 w R9 hs7 hd8 hr10 hst => ?_)
          obtain ⟨h56_, r0⟩ := hd8 0 56 rfl rfl
          obtain ⟨h57_, r1⟩ := hd8 1 57 rfl rfl
          obtain ⟨h58_, r2⟩ := hd8 2 58 rfl rfl
          obtain ⟨h59_, r3⟩ := hd8 3 59 rfl rfl
          obtain ⟨h60_, r4⟩ := hd8 4 60 rfl rfl
          obtain ⟨h61_, r5⟩ := hd8 5 61 rfl rfl
          obtain ⟨h62_, r6⟩ := hd8 6 62 rfl rfl
          obtain ⟨h63_, r7⟩ := hd8 7 63 rfl rfl
          obtain ⟨h64_, r8⟩ := hd8 8 64 rfl rfl
          simp only [show List.range 9 = [0, 1, 2, 3, 4, 5, 6, 7, 8] from rfl, List.flatMap_cons, List.flatMap_nil, List.map_cons, List.map_nil, r0, r1, r2, r3, r4, r5, r6, r7, r8, List.nil_append, List.append_nil, List.cons_append] at hst
          refine RunL.slots (sl := [(3, .pointer (some ⟨_, _, none⟩)), (7, .bool _), (61, .bool _), (63, .int .i64 _), (64, .agg #[.int .i32 _, .int .i32 _, .int .i32 _, .int .i32 _, .int .i32 _, .int .i32 _, .int .i32 _, .int .i32 _, .int .i32 _])]) ⟨(hs7 3 rfl).trans rfl, (hs7 7 rfl).trans rfl, h61_, h63_, h64_, trivial⟩ ?_
          clear hs7 hd8 hr10 tab4
          refine RunL.take (t := 61) rfl (congrArg Value.bool (decide_eq_true g5)) (Op1.call1 (v1 := .agg #[.int .i32 _, .int .i32 _, .int .i32 _, .int .i32 _, .int .i32 _, .int .i32 _, .int .i32 _, .int .i32 _, .int .i32 _]) ent23 rfl rfl ((edge_area _ _ _ _ _ _ _ _ _ _).mono fun v w hp => ?_))
          obtain ⟨rfl, hp⟩ := hp
          replace hst := hst.keepc hp
          clear hp
          first | refine RunL.take (t := 61) rfl (congrArg Value.bool (decide_eq_true g5)) (Op1.negN rfl rfl (wrap_i64 (by omega) (by omega)) ?_) | refine RunL.take (t := 61) rfl (congrArg Value.bool (decide_eq_true g5)) (Op1.neg rfl ?_)
          refine RunL.take (t := 61) rfl (congrArg Value.bool (decide_eq_true g5)) (Op1.eql rfl rfl ?_)
          refine RunL.cons (Op1.pickT (u := .bool _) (congrArg Value.bool (decide_eq_true g5)) rfl ?_)
          refine RunL.cons (Op1.move (v := .bool _) rfl ?_)
          refine RunL.splitD (d := 69) rfl (fun g11 => ?_) (fun g11 => ?_)
          · skip
            refine RunL.take (t := 69) rfl (congrArg Value.bool (decide_eq_true g11)) (Op1.move (v := .bool _) rfl ?_)
            refine RunL.take (t := 69) rfl (congrArg Value.bool (decide_eq_true g11)) (Op1.not rfl ?_)
            refine RunL.take (t := 69) rfl (congrArg Value.bool (decide_eq_true g11)) (Op1.move (v := .bool _) rfl ?_)
            refine RunL.split (d := 72) rfl (fun g12 => ?_) (fun g12 => ?_)
            · skip
              refine RunL.omit (t := 72) rfl (congrArg Value.bool g12) rfl ?_
              refine RunL.omit (t := 72) rfl (congrArg Value.bool g12) rfl ?_
              refine RunL.omit (t := 72) rfl (congrArg Value.bool g12) rfl ?_
              refine RunL.take (t := 69) rfl (congrArg Value.bool (decide_eq_true g11)) (Op1.pickT (u := .bool _) (congrArg Value.bool g12) rfl ?_)
              refine RunL.cons (Op1.pickT (u := .bool _) (congrArg Value.bool (decide_eq_true g11)) rfl ?_)
              refine RunL.cons (Op1.move (v := .bool _) rfl ?_)
              refine RunL.take (t := 78) rfl (congrArg Value.bool (rfl : true = _)) (Op1.call0  ent36 rfl  ((law27_whole _).mono fun v w hp => ?_))
              obtain ⟨rfl, hp⟩ := hp
              replace hst := hst.keepc hp
              clear hp
              refine RunL.cons (Op1.pickT (u := .bool _) (congrArg Value.bool (rfl : true = _)) rfl ?_)
              refine RunL.cons (Op1.assign (v := .bool _) rfl ?_)
              refine RunL.nil ?_
              refine run_ret1 Try.func9 rfl (RV.tmp (v := .bool _) rfl) ?_
              exact ⟨congrArg Value.bool rfl, hst.pure⟩
            · skip
              refine RunL.take (t := 72) rfl (congrArg Value.bool g12) (Op1.loadA (vs := [.int .i32 _, .int .i32 _, .int .i32 _, .int .i32 _, .int .i32 _, .int .i32 _, .int .i32 _, .int .i32 _, .int .i32 _]) ty27 rfl rfl rfl (cells_of_obj (n := 9) (hst.objL (.tail _ (.tail _ (.tail _ (.head _))))) _ rfl) ?_)
              refine RunL.take (t := 72) rfl (congrArg Value.bool g12) (Op1.call1 (v1 := .agg #[.int .i32 _, .int .i32 _, .int .i32 _, .int .i32 _, .int .i32 _, .int .i32 _, .int .i32 _, .int .i32 _, .int .i32 _]) ent23 rfl rfl ((edge_area _ _ _ _ _ _ _ _ _ _).mono fun v w hp => ?_))
              obtain ⟨rfl, hp⟩ := hp
              replace hst := hst.keepc hp
              clear hp
              refine RunL.take (t := 72) rfl (congrArg Value.bool g12) (Op1.neq rfl rfl ?_)
              refine RunL.take (t := 69) rfl (congrArg Value.bool (decide_eq_true g11)) (Op1.pickF (u := .bool _) (congrArg Value.bool g12) rfl ?_)
              refine RunL.cons (Op1.pickT (u := .bool _) (congrArg Value.bool (decide_eq_true g11)) rfl ?_)
              refine RunL.cons (Op1.move (v := .bool _) rfl ?_)
              refine RunL.splitD (d := 78) rfl (fun g13 => ?_) (fun g13 => ?_)
              · skip
                refine RunL.take (t := 78) rfl (congrArg Value.bool (decide_eq_true g13)) (Op1.call0  ent36 rfl  ((law27_whole _).mono fun v w hp => ?_))
                obtain ⟨rfl, hp⟩ := hp
                replace hst := hst.keepc hp
                clear hp
                refine RunL.cons (Op1.pickT (u := .bool _) (congrArg Value.bool (decide_eq_true g13)) rfl ?_)
                refine RunL.cons (Op1.assign (v := .bool _) rfl ?_)
                refine RunL.nil ?_
                refine run_ret1 Try.func9 rfl (RV.tmp (v := .bool _) rfl) ?_
                exact ⟨congrArg Value.bool rfl, hst.pure⟩
              · skip
                exfalso
                exact g13 (fun h0 => by have h1 := g12; rw [coversZ_zero _ _ h0] at h1; cases h1)
          · skip
            exfalso
            exact g11 (side_flip _ _ _ _ _ _)
        · skip
          exfalso
          exact g5 (side_rot3 _ _ _ _ _ _)

end Go.SK
