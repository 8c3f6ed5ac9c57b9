/-
  Walks of functions, and of the laws over them.
-/
import Derived.Test.YtnbapjkldjhjoaaSkFacts1
import Derived.Test.YtnbapjkldjhjoaaSkEdgeA
import Derived.Test.YtnbapjkldjhjoaaSkEdgeC
import Derived.Test.YtnbapjkldjhjoaaSkJ
set_option linter.unusedVariables false
set_option linter.unusedSimpArgs false
namespace Go.SK
open Go Go.Proofs
open Go.RowKit
theorem inZ_pos {ax ay bx by_ mx my : Int} (h : ¬ sideZ ax ay bx by_ mx my < 0) (h2 : ¬ sideZ ax ay bx by_ mx my = 0) : inZ ax ay bx by_ mx my = true := by
  unfold inZ; exact decide_eq_true (by omega)
theorem inZ_top {ax ay bx by_ mx my : Int} (h : sideZ ax ay bx by_ mx my = 0) (h2 : (!topZ ax ay bx by_) = false) : inZ ax ay bx by_ mx my = true := by
  unfold inZ; exact decide_eq_true (.inr ⟨h, by simpa using h2⟩)
theorem inZ_neg {ax ay bx by_ mx my : Int} (h : sideZ ax ay bx by_ mx my < 0) : inZ ax ay bx by_ mx my = false := by
  unfold inZ; exact decide_eq_false (by omega)
theorem inZ_ntop {ax ay bx by_ mx my : Int} (h : sideZ ax ay bx by_ mx my = 0) (h2 : (!topZ ax ay bx by_) = true) : inZ ax ay bx by_ mx my = false := by
  unfold inZ; refine decide_eq_false ?_
  simp at h2; rw [h2]; simp; omega
theorem coversZ_in {ax ay bx by_ cx cy : Int} {x y : Int} (h : ¬ (x < 0 ∨ y < 0 ∨ 1024 ≤ x ∨ 1024 ≤ y)) (h0 : ¬ sideZ ax ay bx by_ cx cy = 0) :
    coversZ ax ay bx by_ cx cy x y = if sideZ ax ay bx by_ cx cy < 0 then in3 ax ay cx cy bx by_ (16 * x + 8) (16 * y + 8) else in3 ax ay bx by_ cx cy (16 * x + 8) (16 * y + 8) := by
  unfold coversZ; rw [if_neg h, if_neg h0]
set_option maxHeartbeats 2000000 in
theorem ref_covers (ax ay az bx by_ bz cx cy cz : Int) (x y : Int) (w : World) : Ret Try.prog 35 #[.agg #[.int .i32 ax, .int .i32 ay, .int .i32 az, .int .i32 bx, .int .i32 by_, .int .i32 bz, .int .i32 cx, .int .i32 cy, .int .i32 cz], .int .i64 x, .int .i64 y] w (fun v w' => v = .bool (coversZ (clampZ ax) (clampZ ay) (clampZ bx) (clampZ by_) (clampZ cx) (clampZ cy) x y) ∧ St w NoM [] [] w') := by
  refine Ret.enter (args := [.agg #[.int .i32 ax, .int .i32 ay, .int .i32 az, .int .i32 bx, .int .i32 by_, .int .i32 bz, .int .i32 cx, .int .i32 cy, .int .i32 cz], .int .i64 x, .int .i64 y]) Try.func35 rfl rfl rfl ?_
  have hst := St.init w
  refine run_seq ?_
  refine run_region ?_
  refine RunL.cons (Op1.box (v := .agg #[.int .i32 _, .int .i32 _, .int .i32 _, .int .i32 _, .int .i32 _, .int .i32 _, .int .i32 _, .int .i32 _, .int .i32 _]) hst rfl rfl fun w b3 hst => ?_)
  refine RunL.cons (Op1.assign (v := .bool _) rfl ?_)
  refine RunL.nil ?_
  refine run_seq ?_
  refine run_seq ?_
  refine run_region ?_
  refine RunL.cons (Op1.move (v := .int .i64 _) rfl ?_)
  refine RunL.cons (Op1.lss rfl rfl ?_)
  refine RunL.cons (Op1.move (v := .bool _) rfl ?_)
  refine RunL.splitD (d := 14) rfl (fun g1 => ?_) (fun g1 => ?_)
  · skip
    refine RunL.omit (t := 14) rfl (congrArg Value.bool (decide_eq_true g1)) rfl ?_
    refine RunL.omit (t := 14) rfl (congrArg Value.bool (decide_eq_true g1)) rfl ?_
    refine RunL.cons (Op1.pickT (u := .bool _) (congrArg Value.bool (decide_eq_true g1)) rfl ?_)
    refine RunL.cons (Op1.move (v := .bool _) rfl ?_)
    refine RunL.omit (t := 18) rfl (congrArg Value.bool (rfl : true = _)) rfl ?_
    refine RunL.omit (t := 18) rfl (congrArg Value.bool (rfl : true = _)) rfl ?_
    refine RunL.cons (Op1.pickT (u := .bool _) (congrArg Value.bool (rfl : true = _)) rfl ?_)
    refine RunL.cons (Op1.move (v := .bool _) rfl ?_)
    refine RunL.omit (t := 22) rfl (congrArg Value.bool (rfl : true = _)) rfl ?_
    refine RunL.omit (t := 22) rfl (congrArg Value.bool (rfl : true = _)) rfl ?_
    refine RunL.cons (Op1.pickT (u := .bool _) (congrArg Value.bool (rfl : true = _)) rfl ?_)
    refine RunL.cons (Op1.move (v := .bool _) rfl ?_)
    refine RunL.omit (t := 26) rfl (congrArg Value.bool (rfl : true = _)) rfl ?_
    refine RunL.omit (t := 26) rfl (congrArg Value.bool (rfl : true = _)) rfl ?_
    refine RunL.omit (t := 26) rfl (congrArg Value.bool (rfl : true = _)) rfl ?_
    refine RunL.cons (Op1.pickT (u := .bool _) (congrArg Value.bool (rfl : true = _)) rfl ?_)
    refine RunL.nil ?_
    refine run_cond_true (congrArg Value.bool (rfl : true = _)) ?_
    refine run_seq ?_
    refine run_region ?_
    refine RunL.cons (Op1.assign (v := .bool _) rfl ?_)
    refine RunL.nil ?_
    refine run_ret1 Try.func35 rfl (RV.tmp (v := .bool _) rfl) ?_
    refine ⟨congrArg Value.bool (Eq.symm ?_), hst.pure⟩
    exact coversZ_out _ _ _ _ _ _ (by omega)
  · skip
    refine RunL.take (t := 14) rfl (congrArg Value.bool (decide_eq_false g1)) (Op1.move (v := .int .i64 _) rfl ?_)
    refine RunL.take (t := 14) rfl (congrArg Value.bool (decide_eq_false g1)) (Op1.lss rfl rfl ?_)
    refine RunL.cons (Op1.pickF (u := .bool _) (congrArg Value.bool (decide_eq_false g1)) rfl ?_)
    refine RunL.cons (Op1.move (v := .bool _) rfl ?_)
    refine RunL.splitD (d := 18) rfl (fun g2 => ?_) (fun g2 => ?_)
    · skip
      refine RunL.omit (t := 18) rfl (congrArg Value.bool (decide_eq_true g2)) rfl ?_
      refine RunL.omit (t := 18) rfl (congrArg Value.bool (decide_eq_true g2)) rfl ?_
      refine RunL.cons (Op1.pickT (u := .bool _) (congrArg Value.bool (decide_eq_true g2)) rfl ?_)
      refine RunL.cons (Op1.move (v := .bool _) rfl ?_)
      refine RunL.omit (t := 22) rfl (congrArg Value.bool (rfl : true = _)) rfl ?_
      refine RunL.omit (t := 22) rfl (congrArg Value.bool (rfl : true = _)) rfl ?_
      refine RunL.cons (Op1.pickT (u := .bool _) (congrArg Value.bool (rfl : true = _)) rfl ?_)
      refine RunL.cons (Op1.move (v := .bool _) rfl ?_)
      refine RunL.omit (t := 26) rfl (congrArg Value.bool (rfl : true = _)) rfl ?_
      refine RunL.omit (t := 26) rfl (congrArg Value.bool (rfl : true = _)) rfl ?_
      refine RunL.omit (t := 26) rfl (congrArg Value.bool (rfl : true = _)) rfl ?_
      refine RunL.cons (Op1.pickT (u := .bool _) (congrArg Value.bool (rfl : true = _)) rfl ?_)
      refine RunL.nil ?_
      refine run_cond_true (congrArg Value.bool (rfl : true = _)) ?_
      refine run_seq ?_
      refine run_region ?_
      refine RunL.cons (Op1.assign (v := .bool _) rfl ?_)
      refine RunL.nil ?_
      refine run_ret1 Try.func35 rfl (RV.tmp (v := .bool _) rfl) ?_
      refine ⟨congrArg Value.bool (Eq.symm ?_), hst.pure⟩
      exact coversZ_out _ _ _ _ _ _ (by omega)
    · skip
      refine RunL.take (t := 18) rfl (congrArg Value.bool (decide_eq_false g2)) (Op1.move (v := .int .i64 _) rfl ?_)
      refine RunL.take (t := 18) rfl (congrArg Value.bool (decide_eq_false g2)) (Op1.gtr rfl rfl ?_)
      refine RunL.cons (Op1.pickF (u := .bool _) (congrArg Value.bool (decide_eq_false g2)) rfl ?_)
      refine RunL.cons (Op1.move (v := .bool _) rfl ?_)
      refine RunL.splitD (d := 22) rfl (fun g3 => ?_) (fun g3 => ?_)
      · skip
        refine RunL.omit (t := 22) rfl (congrArg Value.bool (decide_eq_true g3)) rfl ?_
        refine RunL.omit (t := 22) rfl (congrArg Value.bool (decide_eq_true g3)) rfl ?_
        refine RunL.cons (Op1.pickT (u := .bool _) (congrArg Value.bool (decide_eq_true g3)) rfl ?_)
        refine RunL.cons (Op1.move (v := .bool _) rfl ?_)
        refine RunL.omit (t := 26) rfl (congrArg Value.bool (rfl : true = _)) rfl ?_
        refine RunL.omit (t := 26) rfl (congrArg Value.bool (rfl : true = _)) rfl ?_
        refine RunL.omit (t := 26) rfl (congrArg Value.bool (rfl : true = _)) rfl ?_
        refine RunL.cons (Op1.pickT (u := .bool _) (congrArg Value.bool (rfl : true = _)) rfl ?_)
        refine RunL.nil ?_
        refine run_cond_true (congrArg Value.bool (rfl : true = _)) ?_
        refine run_seq ?_
        refine run_region ?_
        refine RunL.cons (Op1.assign (v := .bool _) rfl ?_)
        refine RunL.nil ?_
        refine run_ret1 Try.func35 rfl (RV.tmp (v := .bool _) rfl) ?_
        refine ⟨congrArg Value.bool (Eq.symm ?_), hst.pure⟩
        exact coversZ_out _ _ _ _ _ _ (by omega)
      · skip
        refine RunL.take (t := 22) rfl (congrArg Value.bool (decide_eq_false g3)) (Op1.move (v := .int .i64 _) rfl ?_)
        refine RunL.take (t := 22) rfl (congrArg Value.bool (decide_eq_false g3)) (Op1.gtr rfl rfl ?_)
        refine RunL.cons (Op1.pickF (u := .bool _) (congrArg Value.bool (decide_eq_false g3)) rfl ?_)
        refine RunL.cons (Op1.move (v := .bool _) rfl ?_)
        refine RunL.splitD (d := 26) rfl (fun g4 => ?_) (fun g4 => ?_)
        · skip
          refine RunL.omit (t := 26) rfl (congrArg Value.bool (decide_eq_true g4)) rfl ?_
          refine RunL.omit (t := 26) rfl (congrArg Value.bool (decide_eq_true g4)) rfl ?_
          refine RunL.omit (t := 26) rfl (congrArg Value.bool (decide_eq_true g4)) rfl ?_
          refine RunL.cons (Op1.pickT (u := .bool _) (congrArg Value.bool (decide_eq_true g4)) rfl ?_)
          refine RunL.nil ?_
          refine run_cond_true (congrArg Value.bool (rfl : true = _)) ?_
          refine run_seq ?_
          refine run_region ?_
          refine RunL.cons (Op1.assign (v := .bool _) rfl ?_)
          refine RunL.nil ?_
          refine run_ret1 Try.func35 rfl (RV.tmp (v := .bool _) rfl) ?_
          refine ⟨congrArg Value.bool (Eq.symm ?_), hst.pure⟩
          exact coversZ_out _ _ _ _ _ _ (by omega)
        · skip
          refine RunL.take (t := 26) rfl (congrArg Value.bool (decide_eq_false g4)) (Op1.loadA (vs := [.int .i32 _, .int .i32 _, .int .i32 _, .int .i32 _, .int .i32 _, .int .i32 _, .int .i32 _, .int .i32 _, .int .i32 _]) ty27 rfl rfl rfl (cells_of_obj (n := 9) (hst.objL (.head _)) _ rfl) ?_)
          refine RunL.take (t := 26) rfl (congrArg Value.bool (decide_eq_false g4)) (Op1.call1 (v1 := .agg #[.int .i32 _, .int .i32 _, .int .i32 _, .int .i32 _, .int .i32 _, .int .i32 _, .int .i32 _, .int .i32 _, .int .i32 _]) ent24 rfl rfl ((ref_area _ _ _ _ _ _ _ _ _ _).mono fun v w hp => ?_))
          obtain ⟨rfl, hp⟩ := hp
          replace hst := hst.keepc hp
          clear hp
          refine RunL.take (t := 26) rfl (congrArg Value.bool (decide_eq_false g4)) (Op1.eql rfl rfl ?_)
          refine RunL.cons (Op1.pickF (u := .bool _) (congrArg Value.bool (decide_eq_false g4)) rfl ?_)
          refine RunL.nil ?_
          refine run_cond_dec rfl (fun g5 => ?_) (fun g5 => ?_)
          · skip
            refine run_seq ?_
            refine run_region ?_
            refine RunL.cons (Op1.assign (v := .bool _) rfl ?_)
            refine RunL.nil ?_
            refine run_ret1 Try.func35 rfl (RV.tmp (v := .bool _) rfl) ?_
            refine ⟨congrArg Value.bool (Eq.symm ?_), hst.pure⟩
            exact coversZ_zero _ _ g5
          · skip
            refine run_skip ?_
            refine run_seq ?_
            refine run_region ?_
            refine RunL.cons (Op1.loadA (vs := [.int .i32 _, .int .i32 _, .int .i32 _, .int .i32 _, .int .i32 _, .int .i32 _, .int .i32 _, .int .i32 _, .int .i32 _]) ty27 rfl rfl rfl (cells_of_obj (n := 9) (hst.objL (.head _)) _ rfl) ?_)
            refine RunL.cons (Op1.alloc hst ty27 fun w b7 hst => ?_)
            refine RunL.cons (Op1.store (v := .agg #[.int .i32 _, .int .i32 _, .int .i32 _, .int .i32 _, .int .i32 _, .int .i32 _, .int .i32 _, .int .i32 _, .int .i32 _]) hst ty27 rfl rfl rfl rfl rfl (.here) (by repeat (first | exact Put.nil | apply Put.put | apply Put.skip)) fun w hst => ?_)
            refine RunL.nil ?_
            refine run_seq ?_
            refine run_seq ?_
            refine run_region ?_
            refine RunL.cons (Op1.loadA (vs := [.int .i32 _, .int .i32 _, .int .i32 _, .int .i32 _, .int .i32 _, .int .i32 _, .int .i32 _, .int .i32 _, .int .i32 _]) ty27 rfl rfl rfl (cells_of_obj (n := 9) (hst.objL (.tail _ (.head _))) _ rfl) ?_)
            refine RunL.cons (Op1.call1 (v1 := .agg #[.int .i32 _, .int .i32 _, .int .i32 _, .int .i32 _, .int .i32 _, .int .i32 _, .int .i32 _, .int .i32 _, .int .i32 _]) ent24 rfl rfl ((ref_area _ _ _ _ _ _ _ _ _ _).mono fun v w hp => ?_))
            obtain ⟨rfl, hp⟩ := hp
            replace hst := hst.keepc hp
            clear hp
            refine RunL.cons (Op1.lss rfl rfl ?_)
            refine RunL.nil ?_
            refine run_cond_dec rfl (fun g6 => ?_) (fun g6 => ?_)
            · skip
              refine run_seq ?_
              refine run_region ?_
              refine RunL.cons (Op1.indexArr ty27 ty25 rfl rfl (by decide) (by decide) ?_)
              refine RunL.cons (Op1.loadA (vs := [.int .i32 _, .int .i32 _, .int .i32 _]) ty25 rfl rfl rfl (cells_of_obj (n := 3) (hst.objL (.tail _ (.head _))) _ rfl) ?_)
              refine RunL.cons (Op1.indexArr ty27 ty25 rfl rfl (by decide) (by decide) ?_)
              refine RunL.cons (Op1.store (v := .agg #[.int .i32 _, .int .i32 _, .int .i32 _]) hst ty25 rfl rfl rfl rfl rfl (.here) (by repeat (first | exact Put.nil | apply Put.put | apply Put.skip)) fun w hst => ?_)
              refine RunL.nil ?_
              refine run_region ?_
              refine RunL.cons (Op1.indexArr ty27 ty25 rfl rfl (by decide) (by decide) ?_)
              refine RunL.cons (Op1.loadA (vs := [.int .i32 _, .int .i32 _, .int .i32 _]) ty25 rfl rfl rfl (cells_of_obj (n := 3) (hst.objL (.tail _ (.head _))) _ rfl) ?_)
              refine RunL.cons (Op1.indexArr ty27 ty25 rfl rfl (by decide) (by decide) ?_)
              refine RunL.cons (Op1.store (v := .agg #[.int .i32 _, .int .i32 _, .int .i32 _]) hst ty25 rfl rfl rfl rfl rfl (.here) (by repeat (first | exact Put.nil | apply Put.put | apply Put.skip)) fun w hst => ?_)
              refine RunL.nil ?_
              refine run_seq ?_
              refine run_seq ?_
              refine run_region ?_
              refine RunL.cons (Op1.assign (v := .int .i64 _) rfl ?_)
              refine RunL.nil ?_
              refine run_block ?_
              refine run_loop ?_
              refine run_seq ?_
              refine run_seq ?_
              refine run_region ?_
              refine RunL.cons (Op1.move (v := .int .i64 _) rfl ?_)
              refine RunL.cons (Op1.lss rfl rfl ?_)
              refine RunL.nil ?_
              refine run_cond_true (congrArg Value.bool (decide_eq_true (by decide))) ?_
              refine run_skip ?_
              refine run_seq ?_
              refine run_block ?_
              refine run_seq ?_
              refine run_region ?_
              refine RunL.cons (Op1.move (v := .int .i64 _) rfl ?_)
              refine RunL.cons (Op1.indexArr ty27 ty25 rfl rfl (by omega) (by omega) ?_)
              refine RunL.cons (Op1.loadA (vs := [.int .i32 _, .int .i32 _, .int .i32 _]) ty25 rfl rfl rfl (cells_of_obj (n := 3) (hst.objL (.head _)) _ rfl) ?_)
              refine RunL.cons (Op1.alloc hst ty25 fun w b9 hst => ?_)
              refine RunL.cons (Op1.store (v := .agg #[.int .i32 _, .int .i32 _, .int .i32 _]) hst ty25 rfl rfl rfl rfl rfl (.here) (by repeat (first | exact Put.nil | apply Put.put | apply Put.skip)) fun w hst => ?_)
              refine RunL.nil ?_
              refine run_seq ?_
              refine run_region ?_
              refine RunL.cons (Op1.move (v := .int .i64 _) rfl ?_)
              refine RunL.cons (Op1.addN rfl rfl rfl (wrap_i64 (by omega) (by omega)) ?_)
              first | refine RunL.cons (Op1.remN rfl rfl (by omega) (by omega) rfl ?_) | refine RunL.cons (Op1.rem rfl rfl (by omega) ?_)
              refine RunL.cons (Op1.indexArr ty27 ty25 rfl rfl (by omega) (by omega) ?_)
              refine RunL.cons (Op1.loadA (vs := [.int .i32 _, .int .i32 _, .int .i32 _]) ty25 rfl rfl rfl (cells_of_obj (n := 3) (hst.objL (.tail _ (.head _))) _ rfl) ?_)
              refine RunL.cons (Op1.alloc hst ty25 fun w b10 hst => ?_)
              refine RunL.cons (Op1.store (v := .agg #[.int .i32 _, .int .i32 _, .int .i32 _]) hst ty25 rfl rfl rfl rfl rfl (.here) (by repeat (first | exact Put.nil | apply Put.put | apply Put.skip)) fun w hst => ?_)
              refine RunL.nil ?_
              refine run_seq ?_
              refine run_region ?_
              refine RunL.cons (Op1.loadA (vs := [.int .i32 _, .int .i32 _, .int .i32 _]) ty25 rfl rfl rfl (cells_of_obj (n := 3) (hst.objL (.tail _ (.head _))) _ rfl) ?_)
              refine RunL.cons (Op1.loadA (vs := [.int .i32 _, .int .i32 _, .int .i32 _]) ty25 rfl rfl rfl (cells_of_obj (n := 3) (hst.objL (.head _)) _ rfl) ?_)
              refine RunL.cons (Op1.move (v := .int .i64 _) rfl ?_)
              first | refine RunL.cons (Op1.mulN rfl rfl rfl (wrap_i64 (by omega) (by omega)) ?_) | refine RunL.cons (Op1.mulB rfl rfl (by omega) (by omega) (by omega) (by omega) (fun hm7 hm8 => ?_))
              refine RunL.cons (Op1.addN rfl rfl rfl (wrap_i64 (by omega) (by omega)) ?_)
              refine RunL.cons (Op1.move (v := .int .i64 _) rfl ?_)
              first | refine RunL.cons (Op1.mulN rfl rfl rfl (wrap_i64 (by omega) (by omega)) ?_) | refine RunL.cons (Op1.mulB rfl rfl (by omega) (by omega) (by omega) (by omega) (fun hm9 hm10 => ?_))
              refine RunL.cons (Op1.addN rfl rfl rfl (wrap_i64 (by omega) (by omega)) ?_)
              refine RunL.cons (Op1.call4 (v1 := .agg #[.int .i32 _, .int .i32 _, .int .i32 _]) (v2 := .agg #[.int .i32 _, .int .i32 _, .int .i32 _]) (v3 := .int .i64 _) (v4 := .int .i64 _) ent54 rfl rfl rfl rfl rfl ((ref_at _ _ _ _ _ _ _ _ (by omega) (by omega) _).mono fun v w hp => ?_))
              obtain ⟨rfl, hp⟩ := hp
              replace hst := hst.keepc hp
              clear hp
              refine RunL.cons (Op1.assign (v := .int .i64 _) rfl ?_)
              refine RunL.nil ?_
              refine Run.cutC hst [1, 2, 7, 8] (inZ (clampZ ax) (clampZ ay) (clampZ cx) (clampZ cy) (16 * x + 8) (16 * y + 8) = true) (fun f w kf13 hst hJ12 => ?_) (fun cut11 => ?_)
              · skip
                refine Run.slots (sl := [(1, .int .i64 _), (2, .int .i64 _), (7, .pointer (some ⟨_, _, none⟩)), (8, .int .i64 _)]) ⟨(kf13.get 1 rfl).trans rfl, (kf13.get 2 rfl).trans rfl, (kf13.get 7 rfl).trans rfl, (kf13.get 8 rfl).trans rfl, trivial⟩ ?_
                refine run_inBlock ?_
                refine run_region ?_
                refine RunL.cons (Op1.move (v := .int .i64 _) rfl ?_)
                refine RunL.cons (Op1.addN rfl rfl rfl (wrap_i64 (by omega) (by omega)) ?_)
                refine RunL.cons (Op1.assign (v := .int .i64 _) rfl ?_)
                refine RunL.nil ?_
                refine run_inLoop ?_
                refine run_seq ?_
                refine run_seq ?_
                refine run_region ?_
                refine RunL.cons (Op1.move (v := .int .i64 _) rfl ?_)
                refine RunL.cons (Op1.lss rfl rfl ?_)
                refine RunL.nil ?_
                refine run_cond_true (congrArg Value.bool (decide_eq_true (by decide))) ?_
                refine run_skip ?_
                refine run_seq ?_
                refine run_block ?_
                refine run_seq ?_
                refine run_region ?_
                refine RunL.cons (Op1.move (v := .int .i64 _) rfl ?_)
                refine RunL.cons (Op1.indexArr ty27 ty25 rfl rfl (by omega) (by omega) ?_)
                refine RunL.cons (Op1.loadA (vs := [.int .i32 _, .int .i32 _, .int .i32 _]) ty25 rfl rfl rfl (cells_of_obj (n := 3) (hst.objL (.tail _ (.tail _ (.head _)))) _ rfl) ?_)
                refine RunL.cons (Op1.alloc hst ty25 fun w b9 hst => ?_)
                refine RunL.cons (Op1.store (v := .agg #[.int .i32 _, .int .i32 _, .int .i32 _]) hst ty25 rfl rfl rfl rfl rfl (.here) (by repeat (first | exact Put.nil | apply Put.put | apply Put.skip)) fun w hst => ?_)
                refine RunL.nil ?_
                refine run_seq ?_
                refine run_region ?_
                refine RunL.cons (Op1.move (v := .int .i64 _) rfl ?_)
                refine RunL.cons (Op1.addN rfl rfl rfl (wrap_i64 (by omega) (by omega)) ?_)
                first | refine RunL.cons (Op1.remN rfl rfl (by omega) (by omega) rfl ?_) | refine RunL.cons (Op1.rem rfl rfl (by omega) ?_)
                refine RunL.cons (Op1.indexArr ty27 ty25 rfl rfl (by omega) (by omega) ?_)
                refine RunL.cons (Op1.loadA (vs := [.int .i32 _, .int .i32 _, .int .i32 _]) ty25 rfl rfl rfl (cells_of_obj (n := 3) (hst.objL (.tail _ (.tail _ (.tail _ (.head _))))) _ rfl) ?_)
                refine RunL.cons (Op1.alloc hst ty25 fun w b10 hst => ?_)
                refine RunL.cons (Op1.store (v := .agg #[.int .i32 _, .int .i32 _, .int .i32 _]) hst ty25 rfl rfl rfl rfl rfl (.here) (by repeat (first | exact Put.nil | apply Put.put | apply Put.skip)) fun w hst => ?_)
                refine RunL.nil ?_
                refine run_seq ?_
                refine run_region ?_
                refine RunL.cons (Op1.loadA (vs := [.int .i32 _, .int .i32 _, .int .i32 _]) ty25 rfl rfl rfl (cells_of_obj (n := 3) (hst.objL (.tail _ (.head _))) _ rfl) ?_)
                refine RunL.cons (Op1.loadA (vs := [.int .i32 _, .int .i32 _, .int .i32 _]) ty25 rfl rfl rfl (cells_of_obj (n := 3) (hst.objL (.head _)) _ rfl) ?_)
                refine RunL.cons (Op1.move (v := .int .i64 _) rfl ?_)
                first | refine RunL.cons (Op1.mulN rfl rfl rfl (wrap_i64 (by omega) (by omega)) ?_) | refine RunL.cons (Op1.mulB rfl rfl (by omega) (by omega) (by omega) (by omega) (fun hm14 hm15 => ?_))
                refine RunL.cons (Op1.addN rfl rfl rfl (wrap_i64 (by omega) (by omega)) ?_)
                refine RunL.cons (Op1.move (v := .int .i64 _) rfl ?_)
                first | refine RunL.cons (Op1.mulN rfl rfl rfl (wrap_i64 (by omega) (by omega)) ?_) | refine RunL.cons (Op1.mulB rfl rfl (by omega) (by omega) (by omega) (by omega) (fun hm16 hm17 => ?_))
                refine RunL.cons (Op1.addN rfl rfl rfl (wrap_i64 (by omega) (by omega)) ?_)
                refine RunL.cons (Op1.call4 (v1 := .agg #[.int .i32 _, .int .i32 _, .int .i32 _]) (v2 := .agg #[.int .i32 _, .int .i32 _, .int .i32 _]) (v3 := .int .i64 _) (v4 := .int .i64 _) ent54 rfl rfl rfl rfl rfl ((ref_at _ _ _ _ _ _ _ _ (by omega) (by omega) _).mono fun v w hp => ?_))
                obtain ⟨rfl, hp⟩ := hp
                replace hst := hst.keepc hp
                clear hp
                refine RunL.cons (Op1.assign (v := .int .i64 _) rfl ?_)
                refine RunL.nil ?_
                refine Run.cutC hst [1, 2, 7, 8] (inZ (clampZ cx) (clampZ cy) (clampZ bx) (clampZ by_) (16 * x + 8) (16 * y + 8) = true) (fun f w kf20 hst hJ19 => ?_) (fun cut18 => ?_)
                · skip
                  refine Run.slots (sl := [(1, .int .i64 _), (2, .int .i64 _), (7, .pointer (some ⟨_, _, none⟩)), (8, .int .i64 _)]) ⟨(kf20.get 1 rfl).trans rfl, (kf20.get 2 rfl).trans rfl, (kf20.get 7 rfl).trans rfl, (kf20.get 8 rfl).trans rfl, trivial⟩ ?_
                  refine run_inBlock ?_
                  refine run_region ?_
                  refine RunL.cons (Op1.move (v := .int .i64 _) rfl ?_)
                  refine RunL.cons (Op1.addN rfl rfl rfl (wrap_i64 (by omega) (by omega)) ?_)
                  refine RunL.cons (Op1.assign (v := .int .i64 _) rfl ?_)
                  refine RunL.nil ?_
                  refine run_inLoop ?_
                  refine run_seq ?_
                  refine run_seq ?_
                  refine run_region ?_
                  refine RunL.cons (Op1.move (v := .int .i64 _) rfl ?_)
                  refine RunL.cons (Op1.lss rfl rfl ?_)
                  refine RunL.nil ?_
                  refine run_cond_true (congrArg Value.bool (decide_eq_true (by decide))) ?_
                  refine run_skip ?_
                  refine run_seq ?_
                  refine run_block ?_
                  refine run_seq ?_
                  refine run_region ?_
                  refine RunL.cons (Op1.move (v := .int .i64 _) rfl ?_)
                  refine RunL.cons (Op1.indexArr ty27 ty25 rfl rfl (by omega) (by omega) ?_)
                  refine RunL.cons (Op1.loadA (vs := [.int .i32 _, .int .i32 _, .int .i32 _]) ty25 rfl rfl rfl (cells_of_obj (n := 3) (hst.objL (.tail _ (.tail _ (.tail _ (.tail _ (.head _)))))) _ rfl) ?_)
                  refine RunL.cons (Op1.alloc hst ty25 fun w b9 hst => ?_)
                  refine RunL.cons (Op1.store (v := .agg #[.int .i32 _, .int .i32 _, .int .i32 _]) hst ty25 rfl rfl rfl rfl rfl (.here) (by repeat (first | exact Put.nil | apply Put.put | apply Put.skip)) fun w hst => ?_)
                  refine RunL.nil ?_
                  refine run_seq ?_
                  refine run_region ?_
                  refine RunL.cons (Op1.move (v := .int .i64 _) rfl ?_)
                  refine RunL.cons (Op1.addN rfl rfl rfl (wrap_i64 (by omega) (by omega)) ?_)
                  first | refine RunL.cons (Op1.remN rfl rfl (by omega) (by omega) rfl ?_) | refine RunL.cons (Op1.rem rfl rfl (by omega) ?_)
                  refine RunL.cons (Op1.indexArr ty27 ty25 rfl rfl (by omega) (by omega) ?_)
                  refine RunL.cons (Op1.loadA (vs := [.int .i32 _, .int .i32 _, .int .i32 _]) ty25 rfl rfl rfl (cells_of_obj (n := 3) (hst.objL (.tail _ (.tail _ (.tail _ (.tail _ (.tail _ (.head _))))))) _ rfl) ?_)
                  refine RunL.cons (Op1.alloc hst ty25 fun w b10 hst => ?_)
                  refine RunL.cons (Op1.store (v := .agg #[.int .i32 _, .int .i32 _, .int .i32 _]) hst ty25 rfl rfl rfl rfl rfl (.here) (by repeat (first | exact Put.nil | apply Put.put | apply Put.skip)) fun w hst => ?_)
                  refine RunL.nil ?_
                  refine run_seq ?_
                  refine run_region ?_
                  refine RunL.cons (Op1.loadA (vs := [.int .i32 _, .int .i32 _, .int .i32 _]) ty25 rfl rfl rfl (cells_of_obj (n := 3) (hst.objL (.tail _ (.head _))) _ rfl) ?_)
                  refine RunL.cons (Op1.loadA (vs := [.int .i32 _, .int .i32 _, .int .i32 _]) ty25 rfl rfl rfl (cells_of_obj (n := 3) (hst.objL (.head _)) _ rfl) ?_)
                  refine RunL.cons (Op1.move (v := .int .i64 _) rfl ?_)
                  first | refine RunL.cons (Op1.mulN rfl rfl rfl (wrap_i64 (by omega) (by omega)) ?_) | refine RunL.cons (Op1.mulB rfl rfl (by omega) (by omega) (by omega) (by omega) (fun hm21 hm22 => ?_))
                  refine RunL.cons (Op1.addN rfl rfl rfl (wrap_i64 (by omega) (by omega)) ?_)
                  refine RunL.cons (Op1.move (v := .int .i64 _) rfl ?_)
                  first | refine RunL.cons (Op1.mulN rfl rfl rfl (wrap_i64 (by omega) (by omega)) ?_) | refine RunL.cons (Op1.mulB rfl rfl (by omega) (by omega) (by omega) (by omega) (fun hm23 hm24 => ?_))
                  refine RunL.cons (Op1.addN rfl rfl rfl (wrap_i64 (by omega) (by omega)) ?_)
                  refine RunL.cons (Op1.call4 (v1 := .agg #[.int .i32 _, .int .i32 _, .int .i32 _]) (v2 := .agg #[.int .i32 _, .int .i32 _, .int .i32 _]) (v3 := .int .i64 _) (v4 := .int .i64 _) ent54 rfl rfl rfl rfl rfl ((ref_at _ _ _ _ _ _ _ _ (by omega) (by omega) _).mono fun v w hp => ?_))
                  obtain ⟨rfl, hp⟩ := hp
                  replace hst := hst.keepc hp
                  clear hp
                  refine RunL.cons (Op1.assign (v := .int .i64 _) rfl ?_)
                  refine RunL.nil ?_
                  refine Run.cutC hst [1, 2, 7, 8] (inZ (clampZ bx) (clampZ by_) (clampZ ax) (clampZ ay) (16 * x + 8) (16 * y + 8) = true) (fun f w kf27 hst hJ26 => ?_) (fun cut25 => ?_)
                  · skip
                    refine Run.slots (sl := [(1, .int .i64 _), (2, .int .i64 _), (7, .pointer (some ⟨_, _, none⟩)), (8, .int .i64 _)]) ⟨(kf27.get 1 rfl).trans rfl, (kf27.get 2 rfl).trans rfl, (kf27.get 7 rfl).trans rfl, (kf27.get 8 rfl).trans rfl, trivial⟩ ?_
                    refine run_inBlock ?_
                    refine run_region ?_
                    refine RunL.cons (Op1.move (v := .int .i64 _) rfl ?_)
                    refine RunL.cons (Op1.addN rfl rfl rfl (wrap_i64 (by omega) (by omega)) ?_)
                    refine RunL.cons (Op1.assign (v := .int .i64 _) rfl ?_)
                    refine RunL.nil ?_
                    refine run_inLoop ?_
                    refine run_seq ?_
                    refine run_seq ?_
                    refine run_region ?_
                    refine RunL.cons (Op1.move (v := .int .i64 _) rfl ?_)
                    refine RunL.cons (Op1.lss rfl rfl ?_)
                    refine RunL.nil ?_
                    refine run_cond_false (congrArg Value.bool (decide_eq_false (by decide))) ?_
                    refine run_exit (id := 0) rfl ?_
                    refine run_seq ?_
                    refine run_region ?_
                    refine RunL.cons (Op1.assign (v := .bool _) rfl ?_)
                    refine RunL.nil ?_
                    refine run_ret1 Try.func35 rfl (RV.tmp (v := .bool _) rfl) ?_
                    refine ⟨congrArg Value.bool (Eq.symm ?_), hst.pure⟩
                    rw [coversZ_in (by omega) g5, if_pos g6, in3]
                    rw [hJ12, hJ19, hJ26]; rfl
                  · skip
                    refine run_seq ?_
                    refine run_region ?_
                    refine RunL.cons (Op1.move (v := .int .i64 _) rfl ?_)
                    refine RunL.cons (Op1.lss rfl rfl ?_)
                    refine RunL.cons (Op1.move (v := .bool _) rfl ?_)
                    refine RunL.splitD (d := 64) rfl (fun g28 => ?_) (fun g28 => ?_)
                    · skip
                      refine RunL.omit (t := 64) rfl (congrArg Value.bool (decide_eq_true g28)) rfl ?_
                      refine RunL.omit (t := 64) rfl (congrArg Value.bool (decide_eq_true g28)) rfl ?_
                      refine RunL.omit (t := 64) rfl (congrArg Value.bool (decide_eq_true g28)) rfl ?_
                      refine RunL.omitU (t := 67) rfl rfl ?_
                      refine RunL.omitU (t := 67) rfl rfl ?_
                      refine RunL.omitU (t := 67) rfl rfl ?_
                      refine RunL.omitU (t := 67) rfl rfl ?_
                      refine RunL.omit (t := 64) rfl (congrArg Value.bool (decide_eq_true g28)) rfl ?_
                      refine RunL.cons (Op1.pickT (u := .bool _) (congrArg Value.bool (decide_eq_true g28)) rfl ?_)
                      refine RunL.nil ?_
                      refine run_cond_true (congrArg Value.bool (rfl : true = _)) ?_
                      refine run_seq ?_
                      refine run_region ?_
                      refine RunL.cons (Op1.assign (v := .bool _) rfl ?_)
                      refine RunL.nil ?_
                      refine run_ret1 Try.func35 rfl (RV.tmp (v := .bool _) rfl) ?_
                      refine ⟨congrArg Value.bool (Eq.symm ?_), hst.pure⟩
                      rw [coversZ_in (by omega) g5, if_pos g6, in3]
                      have hf := inZ_neg g28
                      rw [hJ12, hJ19, hf]; simp
                    · skip
                      refine RunL.take (t := 64) rfl (congrArg Value.bool (decide_eq_false g28)) (Op1.move (v := .int .i64 _) rfl ?_)
                      refine RunL.take (t := 64) rfl (congrArg Value.bool (decide_eq_false g28)) (Op1.eql rfl rfl ?_)
                      refine RunL.take (t := 64) rfl (congrArg Value.bool (decide_eq_false g28)) (Op1.move (v := .bool _) rfl ?_)
                      refine RunL.splitD (d := 67) rfl (fun g29 => ?_) (fun g29 => ?_)
                      · skip
                        refine RunL.take (t := 67) rfl (congrArg Value.bool (decide_eq_true g29)) (Op1.loadA (vs := [.int .i32 _, .int .i32 _, .int .i32 _]) ty25 rfl rfl rfl (cells_of_obj (n := 3) (hst.objL (.tail _ (.head _))) _ rfl) ?_)
                        refine RunL.take (t := 67) rfl (congrArg Value.bool (decide_eq_true g29)) (Op1.loadA (vs := [.int .i32 _, .int .i32 _, .int .i32 _]) ty25 rfl rfl rfl (cells_of_obj (n := 3) (hst.objL (.head _)) _ rfl) ?_)
                        refine RunL.take (t := 67) rfl (congrArg Value.bool (decide_eq_true g29)) (Op1.call2 (v1 := .agg #[.int .i32 _, .int .i32 _, .int .i32 _]) (v2 := .agg #[.int .i32 _, .int .i32 _, .int .i32 _]) ent30 rfl rfl rfl ((ref_top _ _ _ _ _ _ _).mono fun v w hp => ?_))
                        obtain ⟨rfl, hp⟩ := hp
                        replace hst := hst.keepc hp
                        clear hp
                        refine RunL.take (t := 67) rfl (congrArg Value.bool (decide_eq_true g29)) (Op1.not rfl ?_)
                        refine RunL.take (t := 64) rfl (congrArg Value.bool (decide_eq_false g28)) (Op1.pickT (u := .bool _) (congrArg Value.bool (decide_eq_true g29)) rfl ?_)
                        refine RunL.cons (Op1.pickF (u := .bool _) (congrArg Value.bool (decide_eq_false g28)) rfl ?_)
                        refine RunL.nil ?_
                        refine run_cond_split rfl (fun g30 => ?_) (fun g30 => ?_)
                        · skip
                          refine run_seq ?_
                          refine run_region ?_
                          refine RunL.cons (Op1.assign (v := .bool _) rfl ?_)
                          refine RunL.nil ?_
                          refine run_ret1 Try.func35 rfl (RV.tmp (v := .bool _) rfl) ?_
                          refine ⟨congrArg Value.bool (Eq.symm ?_), hst.pure⟩
                          rw [coversZ_in (by omega) g5, if_pos g6, in3]
                          have hf := inZ_ntop g29 g30
                          rw [hJ12, hJ19, hf]; simp
                        · skip
                          refine run_skip ?_
                          exact cut25 _ w hst (inZ_top g29 g30) ⟨rfl, rfl, rfl, rfl, trivial⟩
                      · skip
                        refine RunL.omit (t := 67) rfl (congrArg Value.bool (decide_eq_false g29)) rfl ?_
                        refine RunL.omit (t := 67) rfl (congrArg Value.bool (decide_eq_false g29)) rfl ?_
                        refine RunL.omit (t := 67) rfl (congrArg Value.bool (decide_eq_false g29)) rfl ?_
                        refine RunL.omit (t := 67) rfl (congrArg Value.bool (decide_eq_false g29)) rfl ?_
                        refine RunL.take (t := 64) rfl (congrArg Value.bool (decide_eq_false g28)) (Op1.pickF (u := .bool _) (congrArg Value.bool (decide_eq_false g29)) rfl ?_)
                        refine RunL.cons (Op1.pickF (u := .bool _) (congrArg Value.bool (decide_eq_false g28)) rfl ?_)
                        refine RunL.nil ?_
                        refine run_cond_false (congrArg Value.bool (rfl : false = _)) ?_
                        refine run_skip ?_
                        exact cut25 _ w hst (inZ_pos g28 g29) ⟨rfl, rfl, rfl, rfl, trivial⟩
                · skip
                  refine run_seq ?_
                  refine run_region ?_
                  refine RunL.cons (Op1.move (v := .int .i64 _) rfl ?_)
                  refine RunL.cons (Op1.lss rfl rfl ?_)
                  refine RunL.cons (Op1.move (v := .bool _) rfl ?_)
                  refine RunL.splitD (d := 64) rfl (fun g31 => ?_) (fun g31 => ?_)
                  · skip
                    refine RunL.omit (t := 64) rfl (congrArg Value.bool (decide_eq_true g31)) rfl ?_
                    refine RunL.omit (t := 64) rfl (congrArg Value.bool (decide_eq_true g31)) rfl ?_
                    refine RunL.omit (t := 64) rfl (congrArg Value.bool (decide_eq_true g31)) rfl ?_
                    refine RunL.omitU (t := 67) rfl rfl ?_
                    refine RunL.omitU (t := 67) rfl rfl ?_
                    refine RunL.omitU (t := 67) rfl rfl ?_
                    refine RunL.omitU (t := 67) rfl rfl ?_
                    refine RunL.omit (t := 64) rfl (congrArg Value.bool (decide_eq_true g31)) rfl ?_
                    refine RunL.cons (Op1.pickT (u := .bool _) (congrArg Value.bool (decide_eq_true g31)) rfl ?_)
                    refine RunL.nil ?_
                    refine run_cond_true (congrArg Value.bool (rfl : true = _)) ?_
                    refine run_seq ?_
                    refine run_region ?_
                    refine RunL.cons (Op1.assign (v := .bool _) rfl ?_)
                    refine RunL.nil ?_
                    refine run_ret1 Try.func35 rfl (RV.tmp (v := .bool _) rfl) ?_
                    refine ⟨congrArg Value.bool (Eq.symm ?_), hst.pure⟩
                    rw [coversZ_in (by omega) g5, if_pos g6, in3]
                    have hf := inZ_neg g31
                    rw [hJ12, hf]; simp
                  · skip
                    refine RunL.take (t := 64) rfl (congrArg Value.bool (decide_eq_false g31)) (Op1.move (v := .int .i64 _) rfl ?_)
                    refine RunL.take (t := 64) rfl (congrArg Value.bool (decide_eq_false g31)) (Op1.eql rfl rfl ?_)
                    refine RunL.take (t := 64) rfl (congrArg Value.bool (decide_eq_false g31)) (Op1.move (v := .bool _) rfl ?_)
                    refine RunL.splitD (d := 67) rfl (fun g32 => ?_) (fun g32 => ?_)
                    · skip
                      refine RunL.take (t := 67) rfl (congrArg Value.bool (decide_eq_true g32)) (Op1.loadA (vs := [.int .i32 _, .int .i32 _, .int .i32 _]) ty25 rfl rfl rfl (cells_of_obj (n := 3) (hst.objL (.tail _ (.head _))) _ rfl) ?_)
                      refine RunL.take (t := 67) rfl (congrArg Value.bool (decide_eq_true g32)) (Op1.loadA (vs := [.int .i32 _, .int .i32 _, .int .i32 _]) ty25 rfl rfl rfl (cells_of_obj (n := 3) (hst.objL (.head _)) _ rfl) ?_)
                      refine RunL.take (t := 67) rfl (congrArg Value.bool (decide_eq_true g32)) (Op1.call2 (v1 := .agg #[.int .i32 _, .int .i32 _, .int .i32 _]) (v2 := .agg #[.int .i32 _, .int .i32 _, .int .i32 _]) ent30 rfl rfl rfl ((ref_top _ _ _ _ _ _ _).mono fun v w hp => ?_))
                      obtain ⟨rfl, hp⟩ := hp
                      replace hst := hst.keepc hp
                      clear hp
                      refine RunL.take (t := 67) rfl (congrArg Value.bool (decide_eq_true g32)) (Op1.not rfl ?_)
                      refine RunL.take (t := 64) rfl (congrArg Value.bool (decide_eq_false g31)) (Op1.pickT (u := .bool _) (congrArg Value.bool (decide_eq_true g32)) rfl ?_)
                      refine RunL.cons (Op1.pickF (u := .bool _) (congrArg Value.bool (decide_eq_false g31)) rfl ?_)
                      refine RunL.nil ?_
                      refine run_cond_split rfl (fun g33 => ?_) (fun g33 => ?_)
                      · skip
                        refine run_seq ?_
                        refine run_region ?_
                        refine RunL.cons (Op1.assign (v := .bool _) rfl ?_)
                        refine RunL.nil ?_
                        refine run_ret1 Try.func35 rfl (RV.tmp (v := .bool _) rfl) ?_
                        refine ⟨congrArg Value.bool (Eq.symm ?_), hst.pure⟩
                        rw [coversZ_in (by omega) g5, if_pos g6, in3]
                        have hf := inZ_ntop g32 g33
                        rw [hJ12, hf]; simp
                      · skip
                        refine run_skip ?_
                        exact cut18 _ w hst (inZ_top g32 g33) ⟨rfl, rfl, rfl, rfl, trivial⟩
                    · skip
                      refine RunL.omit (t := 67) rfl (congrArg Value.bool (decide_eq_false g32)) rfl ?_
                      refine RunL.omit (t := 67) rfl (congrArg Value.bool (decide_eq_false g32)) rfl ?_
                      refine RunL.omit (t := 67) rfl (congrArg Value.bool (decide_eq_false g32)) rfl ?_
                      refine RunL.omit (t := 67) rfl (congrArg Value.bool (decide_eq_false g32)) rfl ?_
                      refine RunL.take (t := 64) rfl (congrArg Value.bool (decide_eq_false g31)) (Op1.pickF (u := .bool _) (congrArg Value.bool (decide_eq_false g32)) rfl ?_)
                      refine RunL.cons (Op1.pickF (u := .bool _) (congrArg Value.bool (decide_eq_false g31)) rfl ?_)
                      refine RunL.nil ?_
                      refine run_cond_false (congrArg Value.bool (rfl : false = _)) ?_
                      refine run_skip ?_
                      exact cut18 _ w hst (inZ_pos g31 g32) ⟨rfl, rfl, rfl, rfl, trivial⟩
              · skip
                refine run_seq ?_
                refine run_region ?_
                refine RunL.cons (Op1.move (v := .int .i64 _) rfl ?_)
                refine RunL.cons (Op1.lss rfl rfl ?_)
                refine RunL.cons (Op1.move (v := .bool _) rfl ?_)
                refine RunL.splitD (d := 64) rfl (fun g34 => ?_) (fun g34 => ?_)
                · skip
                  refine RunL.omit (t := 64) rfl (congrArg Value.bool (decide_eq_true g34)) rfl ?_
                  refine RunL.omit (t := 64) rfl (congrArg Value.bool (decide_eq_true g34)) rfl ?_
                  refine RunL.omit (t := 64) rfl (congrArg Value.bool (decide_eq_true g34)) rfl ?_
                  refine RunL.omitU (t := 67) rfl rfl ?_
                  refine RunL.omitU (t := 67) rfl rfl ?_
                  refine RunL.omitU (t := 67) rfl rfl ?_
                  refine RunL.omitU (t := 67) rfl rfl ?_
                  refine RunL.omit (t := 64) rfl (congrArg Value.bool (decide_eq_true g34)) rfl ?_
                  refine RunL.cons (Op1.pickT (u := .bool _) (congrArg Value.bool (decide_eq_true g34)) rfl ?_)
                  refine RunL.nil ?_
                  refine run_cond_true (congrArg Value.bool (rfl : true = _)) ?_
                  refine run_seq ?_
                  refine run_region ?_
                  refine RunL.cons (Op1.assign (v := .bool _) rfl ?_)
                  refine RunL.nil ?_
                  refine run_ret1 Try.func35 rfl (RV.tmp (v := .bool _) rfl) ?_
                  refine ⟨congrArg Value.bool (Eq.symm ?_), hst.pure⟩
                  rw [coversZ_in (by omega) g5, if_pos g6, in3]
                  have hf := inZ_neg g34
                  rw [hf]; simp
                · skip
                  refine RunL.take (t := 64) rfl (congrArg Value.bool (decide_eq_false g34)) (Op1.move (v := .int .i64 _) rfl ?_)
                  refine RunL.take (t := 64) rfl (congrArg Value.bool (decide_eq_false g34)) (Op1.eql rfl rfl ?_)
                  refine RunL.take (t := 64) rfl (congrArg Value.bool (decide_eq_false g34)) (Op1.move (v := .bool _) rfl ?_)
                  refine RunL.splitD (d := 67) rfl (fun g35 => ?_) (fun g35 => ?_)
                  · skip
                    refine RunL.take (t := 67) rfl (congrArg Value.bool (decide_eq_true g35)) (Op1.loadA (vs := [.int .i32 _, .int .i32 _, .int .i32 _]) ty25 rfl rfl rfl (cells_of_obj (n := 3) (hst.objL (.tail _ (.head _))) _ rfl) ?_)
                    refine RunL.take (t := 67) rfl (congrArg Value.bool (decide_eq_true g35)) (Op1.loadA (vs := [.int .i32 _, .int .i32 _, .int .i32 _]) ty25 rfl rfl rfl (cells_of_obj (n := 3) (hst.objL (.head _)) _ rfl) ?_)
                    refine RunL.take (t := 67) rfl (congrArg Value.bool (decide_eq_true g35)) (Op1.call2 (v1 := .agg #[.int .i32 _, .int .i32 _, .int .i32 _]) (v2 := .agg #[.int .i32 _, .int .i32 _, .int .i32 _]) ent30 rfl rfl rfl ((ref_top _ _ _ _ _ _ _).mono fun v w hp => ?_))
                    obtain ⟨rfl, hp⟩ := hp
                    replace hst := hst.keepc hp
                    clear hp
                    refine RunL.take (t := 67) rfl (congrArg Value.bool (decide_eq_true g35)) (Op1.not rfl ?_)
                    refine RunL.take (t := 64) rfl (congrArg Value.bool (decide_eq_false g34)) (Op1.pickT (u := .bool _) (congrArg Value.bool (decide_eq_true g35)) rfl ?_)
                    refine RunL.cons (Op1.pickF (u := .bool _) (congrArg Value.bool (decide_eq_false g34)) rfl ?_)
                    refine RunL.nil ?_
                    refine run_cond_split rfl (fun g36 => ?_) (fun g36 => ?_)
                    · skip
                      refine run_seq ?_
                      refine run_region ?_
                      refine RunL.cons (Op1.assign (v := .bool _) rfl ?_)
                      refine RunL.nil ?_
                      refine run_ret1 Try.func35 rfl (RV.tmp (v := .bool _) rfl) ?_
                      refine ⟨congrArg Value.bool (Eq.symm ?_), hst.pure⟩
                      rw [coversZ_in (by omega) g5, if_pos g6, in3]
                      have hf := inZ_ntop g35 g36
                      rw [hf]; simp
                    · skip
                      refine run_skip ?_
                      exact cut11 _ w hst (inZ_top g35 g36) ⟨rfl, rfl, rfl, rfl, trivial⟩
                  · skip
                    refine RunL.omit (t := 67) rfl (congrArg Value.bool (decide_eq_false g35)) rfl ?_
                    refine RunL.omit (t := 67) rfl (congrArg Value.bool (decide_eq_false g35)) rfl ?_
                    refine RunL.omit (t := 67) rfl (congrArg Value.bool (decide_eq_false g35)) rfl ?_
                    refine RunL.omit (t := 67) rfl (congrArg Value.bool (decide_eq_false g35)) rfl ?_
                    refine RunL.take (t := 64) rfl (congrArg Value.bool (decide_eq_false g34)) (Op1.pickF (u := .bool _) (congrArg Value.bool (decide_eq_false g35)) rfl ?_)
                    refine RunL.cons (Op1.pickF (u := .bool _) (congrArg Value.bool (decide_eq_false g34)) rfl ?_)
                    refine RunL.nil ?_
                    refine run_cond_false (congrArg Value.bool (rfl : false = _)) ?_
                    refine run_skip ?_
                    exact cut11 _ w hst (inZ_pos g34 g35) ⟨rfl, rfl, rfl, rfl, trivial⟩
            · skip
              refine run_skip ?_
              refine run_seq ?_
              refine run_seq ?_
              refine run_region ?_
              refine RunL.cons (Op1.assign (v := .int .i64 _) rfl ?_)
              refine RunL.nil ?_
              refine run_block ?_
              refine run_loop ?_
              refine run_seq ?_
              refine run_seq ?_
              refine run_region ?_
              refine RunL.cons (Op1.move (v := .int .i64 _) rfl ?_)
              refine RunL.cons (Op1.lss rfl rfl ?_)
              refine RunL.nil ?_
              refine run_cond_true (congrArg Value.bool (decide_eq_true (by decide))) ?_
              refine run_skip ?_
              refine run_seq ?_
              refine run_block ?_
              refine run_seq ?_
              refine run_region ?_
              refine RunL.cons (Op1.move (v := .int .i64 _) rfl ?_)
              refine RunL.cons (Op1.indexArr ty27 ty25 rfl rfl (by omega) (by omega) ?_)
              refine RunL.cons (Op1.loadA (vs := [.int .i32 _, .int .i32 _, .int .i32 _]) ty25 rfl rfl rfl (cells_of_obj (n := 3) (hst.objL (.head _)) _ rfl) ?_)
              refine RunL.cons (Op1.alloc hst ty25 fun w b9 hst => ?_)
              refine RunL.cons (Op1.store (v := .agg #[.int .i32 _, .int .i32 _, .int .i32 _]) hst ty25 rfl rfl rfl rfl rfl (.here) (by repeat (first | exact Put.nil | apply Put.put | apply Put.skip)) fun w hst => ?_)
              refine RunL.nil ?_
              refine run_seq ?_
              refine run_region ?_
              refine RunL.cons (Op1.move (v := .int .i64 _) rfl ?_)
              refine RunL.cons (Op1.addN rfl rfl rfl (wrap_i64 (by omega) (by omega)) ?_)
              first | refine RunL.cons (Op1.remN rfl rfl (by omega) (by omega) rfl ?_) | refine RunL.cons (Op1.rem rfl rfl (by omega) ?_)
              refine RunL.cons (Op1.indexArr ty27 ty25 rfl rfl (by omega) (by omega) ?_)
              refine RunL.cons (Op1.loadA (vs := [.int .i32 _, .int .i32 _, .int .i32 _]) ty25 rfl rfl rfl (cells_of_obj (n := 3) (hst.objL (.tail _ (.head _))) _ rfl) ?_)
              refine RunL.cons (Op1.alloc hst ty25 fun w b10 hst => ?_)
              refine RunL.cons (Op1.store (v := .agg #[.int .i32 _, .int .i32 _, .int .i32 _]) hst ty25 rfl rfl rfl rfl rfl (.here) (by repeat (first | exact Put.nil | apply Put.put | apply Put.skip)) fun w hst => ?_)
              refine RunL.nil ?_
              refine run_seq ?_
              refine run_region ?_
              refine RunL.cons (Op1.loadA (vs := [.int .i32 _, .int .i32 _, .int .i32 _]) ty25 rfl rfl rfl (cells_of_obj (n := 3) (hst.objL (.tail _ (.head _))) _ rfl) ?_)
              refine RunL.cons (Op1.loadA (vs := [.int .i32 _, .int .i32 _, .int .i32 _]) ty25 rfl rfl rfl (cells_of_obj (n := 3) (hst.objL (.head _)) _ rfl) ?_)
              refine RunL.cons (Op1.move (v := .int .i64 _) rfl ?_)
              first | refine RunL.cons (Op1.mulN rfl rfl rfl (wrap_i64 (by omega) (by omega)) ?_) | refine RunL.cons (Op1.mulB rfl rfl (by omega) (by omega) (by omega) (by omega) (fun hm37 hm38 => ?_))
              refine RunL.cons (Op1.addN rfl rfl rfl (wrap_i64 (by omega) (by omega)) ?_)
              refine RunL.cons (Op1.move (v := .int .i64 _) rfl ?_)
              first | refine RunL.cons (Op1.mulN rfl rfl rfl (wrap_i64 (by omega) (by omega)) ?_) | refine RunL.cons (Op1.mulB rfl rfl (by omega) (by omega) (by omega) (by omega) (fun hm39 hm40 => ?_))
              refine RunL.cons (Op1.addN rfl rfl rfl (wrap_i64 (by omega) (by omega)) ?_)
              refine RunL.cons (Op1.call4 (v1 := .agg #[.int .i32 _, .int .i32 _, .int .i32 _]) (v2 := .agg #[.int .i32 _, .int .i32 _, .int .i32 _]) (v3 := .int .i64 _) (v4 := .int .i64 _) ent54 rfl rfl rfl rfl rfl ((ref_at _ _ _ _ _ _ _ _ (by omega) (by omega) _).mono fun v w hp => ?_))
              obtain ⟨rfl, hp⟩ := hp
              replace hst := hst.keepc hp
              clear hp
              refine RunL.cons (Op1.assign (v := .int .i64 _) rfl ?_)
              refine RunL.nil ?_
              refine Run.cutC hst [1, 2, 7, 8] (inZ (clampZ ax) (clampZ ay) (clampZ bx) (clampZ by_) (16 * x + 8) (16 * y + 8) = true) (fun f w kf43 hst hJ42 => ?_) (fun cut41 => ?_)
              · skip
                refine Run.slots (sl := [(1, .int .i64 _), (2, .int .i64 _), (7, .pointer (some ⟨_, _, none⟩)), (8, .int .i64 _)]) ⟨(kf43.get 1 rfl).trans rfl, (kf43.get 2 rfl).trans rfl, (kf43.get 7 rfl).trans rfl, (kf43.get 8 rfl).trans rfl, trivial⟩ ?_
                refine run_inBlock ?_
                refine run_region ?_
                refine RunL.cons (Op1.move (v := .int .i64 _) rfl ?_)
                refine RunL.cons (Op1.addN rfl rfl rfl (wrap_i64 (by omega) (by omega)) ?_)
                refine RunL.cons (Op1.assign (v := .int .i64 _) rfl ?_)
                refine RunL.nil ?_
                refine run_inLoop ?_
                refine run_seq ?_
                refine run_seq ?_
                refine run_region ?_
                refine RunL.cons (Op1.move (v := .int .i64 _) rfl ?_)
                refine RunL.cons (Op1.lss rfl rfl ?_)
                refine RunL.nil ?_
                refine run_cond_true (congrArg Value.bool (decide_eq_true (by decide))) ?_
                refine run_skip ?_
                refine run_seq ?_
                refine run_block ?_
                refine run_seq ?_
                refine run_region ?_
                refine RunL.cons (Op1.move (v := .int .i64 _) rfl ?_)
                refine RunL.cons (Op1.indexArr ty27 ty25 rfl rfl (by omega) (by omega) ?_)
                refine RunL.cons (Op1.loadA (vs := [.int .i32 _, .int .i32 _, .int .i32 _]) ty25 rfl rfl rfl (cells_of_obj (n := 3) (hst.objL (.tail _ (.tail _ (.head _)))) _ rfl) ?_)
                refine RunL.cons (Op1.alloc hst ty25 fun w b9 hst => ?_)
                refine RunL.cons (Op1.store (v := .agg #[.int .i32 _, .int .i32 _, .int .i32 _]) hst ty25 rfl rfl rfl rfl rfl (.here) (by repeat (first | exact Put.nil | apply Put.put | apply Put.skip)) fun w hst => ?_)
                refine RunL.nil ?_
                refine run_seq ?_
                refine run_region ?_
                refine RunL.cons (Op1.move (v := .int .i64 _) rfl ?_)
                refine RunL.cons (Op1.addN rfl rfl rfl (wrap_i64 (by omega) (by omega)) ?_)
                first | refine RunL.cons (Op1.remN rfl rfl (by omega) (by omega) rfl ?_) | refine RunL.cons (Op1.rem rfl rfl (by omega) ?_)
                refine RunL.cons (Op1.indexArr ty27 ty25 rfl rfl (by omega) (by omega) ?_)
                refine RunL.cons (Op1.loadA (vs := [.int .i32 _, .int .i32 _, .int .i32 _]) ty25 rfl rfl rfl (cells_of_obj (n := 3) (hst.objL (.tail _ (.tail _ (.tail _ (.head _))))) _ rfl) ?_)
                refine RunL.cons (Op1.alloc hst ty25 fun w b10 hst => ?_)
                refine RunL.cons (Op1.store (v := .agg #[.int .i32 _, .int .i32 _, .int .i32 _]) hst ty25 rfl rfl rfl rfl rfl (.here) (by repeat (first | exact Put.nil | apply Put.put | apply Put.skip)) fun w hst => ?_)
                refine RunL.nil ?_
                refine run_seq ?_
                refine run_region ?_
                refine RunL.cons (Op1.loadA (vs := [.int .i32 _, .int .i32 _, .int .i32 _]) ty25 rfl rfl rfl (cells_of_obj (n := 3) (hst.objL (.tail _ (.head _))) _ rfl) ?_)
                refine RunL.cons (Op1.loadA (vs := [.int .i32 _, .int .i32 _, .int .i32 _]) ty25 rfl rfl rfl (cells_of_obj (n := 3) (hst.objL (.head _)) _ rfl) ?_)
                refine RunL.cons (Op1.move (v := .int .i64 _) rfl ?_)
                first | refine RunL.cons (Op1.mulN rfl rfl rfl (wrap_i64 (by omega) (by omega)) ?_) | refine RunL.cons (Op1.mulB rfl rfl (by omega) (by omega) (by omega) (by omega) (fun hm44 hm45 => ?_))
                refine RunL.cons (Op1.addN rfl rfl rfl (wrap_i64 (by omega) (by omega)) ?_)
                refine RunL.cons (Op1.move (v := .int .i64 _) rfl ?_)
                first | refine RunL.cons (Op1.mulN rfl rfl rfl (wrap_i64 (by omega) (by omega)) ?_) | refine RunL.cons (Op1.mulB rfl rfl (by omega) (by omega) (by omega) (by omega) (fun hm46 hm47 => ?_))
                refine RunL.cons (Op1.addN rfl rfl rfl (wrap_i64 (by omega) (by omega)) ?_)
                refine RunL.cons (Op1.call4 (v1 := .agg #[.int .i32 _, .int .i32 _, .int .i32 _]) (v2 := .agg #[.int .i32 _, .int .i32 _, .int .i32 _]) (v3 := .int .i64 _) (v4 := .int .i64 _) ent54 rfl rfl rfl rfl rfl ((ref_at _ _ _ _ _ _ _ _ (by omega) (by omega) _).mono fun v w hp => ?_))
                obtain ⟨rfl, hp⟩ := hp
                replace hst := hst.keepc hp
                clear hp
                refine RunL.cons (Op1.assign (v := .int .i64 _) rfl ?_)
                refine RunL.nil ?_
                refine Run.cutC hst [1, 2, 7, 8] (inZ (clampZ bx) (clampZ by_) (clampZ cx) (clampZ cy) (16 * x + 8) (16 * y + 8) = true) (fun f w kf50 hst hJ49 => ?_) (fun cut48 => ?_)
                · skip
                  refine Run.slots (sl := [(1, .int .i64 _), (2, .int .i64 _), (7, .pointer (some ⟨_, _, none⟩)), (8, .int .i64 _)]) ⟨(kf50.get 1 rfl).trans rfl, (kf50.get 2 rfl).trans rfl, (kf50.get 7 rfl).trans rfl, (kf50.get 8 rfl).trans rfl, trivial⟩ ?_
                  refine run_inBlock ?_
                  refine run_region ?_
                  refine RunL.cons (Op1.move (v := .int .i64 _) rfl ?_)
                  refine RunL.cons (Op1.addN rfl rfl rfl (wrap_i64 (by omega) (by omega)) ?_)
                  refine RunL.cons (Op1.assign (v := .int .i64 _) rfl ?_)
                  refine RunL.nil ?_
                  refine run_inLoop ?_
                  refine run_seq ?_
                  refine run_seq ?_
                  refine run_region ?_
                  refine RunL.cons (Op1.move (v := .int .i64 _) rfl ?_)
                  refine RunL.cons (Op1.lss rfl rfl ?_)
                  refine RunL.nil ?_
                  refine run_cond_true (congrArg Value.bool (decide_eq_true (by decide))) ?_
                  refine run_skip ?_
                  refine run_seq ?_
                  refine run_block ?_
                  refine run_seq ?_
                  refine run_region ?_
                  refine RunL.cons (Op1.move (v := .int .i64 _) rfl ?_)
                  refine RunL.cons (Op1.indexArr ty27 ty25 rfl rfl (by omega) (by omega) ?_)
                  refine RunL.cons (Op1.loadA (vs := [.int .i32 _, .int .i32 _, .int .i32 _]) ty25 rfl rfl rfl (cells_of_obj (n := 3) (hst.objL (.tail _ (.tail _ (.tail _ (.tail _ (.head _)))))) _ rfl) ?_)
                  refine RunL.cons (Op1.alloc hst ty25 fun w b9 hst => ?_)
                  refine RunL.cons (Op1.store (v := .agg #[.int .i32 _, .int .i32 _, .int .i32 _]) hst ty25 rfl rfl rfl rfl rfl (.here) (by repeat (first | exact Put.nil | apply Put.put | apply Put.skip)) fun w hst => ?_)
                  refine RunL.nil ?_
                  refine run_seq ?_
                  refine run_region ?_
                  refine RunL.cons (Op1.move (v := .int .i64 _) rfl ?_)
                  refine RunL.cons (Op1.addN rfl rfl rfl (wrap_i64 (by omega) (by omega)) ?_)
                  first | refine RunL.cons (Op1.remN rfl rfl (by omega) (by omega) rfl ?_) | refine RunL.cons (Op1.rem rfl rfl (by omega) ?_)
                  refine RunL.cons (Op1.indexArr ty27 ty25 rfl rfl (by omega) (by omega) ?_)
                  refine RunL.cons (Op1.loadA (vs := [.int .i32 _, .int .i32 _, .int .i32 _]) ty25 rfl rfl rfl (cells_of_obj (n := 3) (hst.objL (.tail _ (.tail _ (.tail _ (.tail _ (.tail _ (.head _))))))) _ rfl) ?_)
                  refine RunL.cons (Op1.alloc hst ty25 fun w b10 hst => ?_)
                  refine RunL.cons (Op1.store (v := .agg #[.int .i32 _, .int .i32 _, .int .i32 _]) hst ty25 rfl rfl rfl rfl rfl (.here) (by repeat (first | exact Put.nil | apply Put.put | apply Put.skip)) fun w hst => ?_)
                  refine RunL.nil ?_
                  refine run_seq ?_
                  refine run_region ?_
                  refine RunL.cons (Op1.loadA (vs := [.int .i32 _, .int .i32 _, .int .i32 _]) ty25 rfl rfl rfl (cells_of_obj (n := 3) (hst.objL (.tail _ (.head _))) _ rfl) ?_)
                  refine RunL.cons (Op1.loadA (vs := [.int .i32 _, .int .i32 _, .int .i32 _]) ty25 rfl rfl rfl (cells_of_obj (n := 3) (hst.objL (.head _)) _ rfl) ?_)
                  refine RunL.cons (Op1.move (v := .int .i64 _) rfl ?_)
                  first | refine RunL.cons (Op1.mulN rfl rfl rfl (wrap_i64 (by omega) (by omega)) ?_) | refine RunL.cons (Op1.mulB rfl rfl (by omega) (by omega) (by omega) (by omega) (fun hm51 hm52 => ?_))
                  refine RunL.cons (Op1.addN rfl rfl rfl (wrap_i64 (by omega) (by omega)) ?_)
                  refine RunL.cons (Op1.move (v := .int .i64 _) rfl ?_)
                  first | refine RunL.cons (Op1.mulN rfl rfl rfl (wrap_i64 (by omega) (by omega)) ?_) | refine RunL.cons (Op1.mulB rfl rfl (by omega) (by omega) (by omega) (by omega) (fun hm53 hm54 => ?_))
                  refine RunL.cons (Op1.addN rfl rfl rfl (wrap_i64 (by omega) (by omega)) ?_)
                  refine RunL.cons (Op1.call4 (v1 := .agg #[.int .i32 _, .int .i32 _, .int .i32 _]) (v2 := .agg #[.int .i32 _, .int .i32 _, .int .i32 _]) (v3 := .int .i64 _) (v4 := .int .i64 _) ent54 rfl rfl rfl rfl rfl ((ref_at _ _ _ _ _ _ _ _ (by omega) (by omega) _).mono fun v w hp => ?_))
                  obtain ⟨rfl, hp⟩ := hp
                  replace hst := hst.keepc hp
                  clear hp
                  refine RunL.cons (Op1.assign (v := .int .i64 _) rfl ?_)
                  refine RunL.nil ?_
                  refine Run.cutC hst [1, 2, 7, 8] (inZ (clampZ cx) (clampZ cy) (clampZ ax) (clampZ ay) (16 * x + 8) (16 * y + 8) = true) (fun f w kf57 hst hJ56 => ?_) (fun cut55 => ?_)
                  · skip
                    refine Run.slots (sl := [(1, .int .i64 _), (2, .int .i64 _), (7, .pointer (some ⟨_, _, none⟩)), (8, .int .i64 _)]) ⟨(kf57.get 1 rfl).trans rfl, (kf57.get 2 rfl).trans rfl, (kf57.get 7 rfl).trans rfl, (kf57.get 8 rfl).trans rfl, trivial⟩ ?_
                    refine run_inBlock ?_
                    refine run_region ?_
                    refine RunL.cons (Op1.move (v := .int .i64 _) rfl ?_)
                    refine RunL.cons (Op1.addN rfl rfl rfl (wrap_i64 (by omega) (by omega)) ?_)
                    refine RunL.cons (Op1.assign (v := .int .i64 _) rfl ?_)
                    refine RunL.nil ?_
                    refine run_inLoop ?_
                    refine run_seq ?_
                    refine run_seq ?_
                    refine run_region ?_
                    refine RunL.cons (Op1.move (v := .int .i64 _) rfl ?_)
                    refine RunL.cons (Op1.lss rfl rfl ?_)
                    refine RunL.nil ?_
                    refine run_cond_false (congrArg Value.bool (decide_eq_false (by decide))) ?_
                    refine run_exit (id := 0) rfl ?_
                    refine run_seq ?_
                    refine run_region ?_
                    refine RunL.cons (Op1.assign (v := .bool _) rfl ?_)
                    refine RunL.nil ?_
                    refine run_ret1 Try.func35 rfl (RV.tmp (v := .bool _) rfl) ?_
                    refine ⟨congrArg Value.bool (Eq.symm ?_), hst.pure⟩
                    rw [coversZ_in (by omega) g5, if_neg g6, in3]
                    rw [hJ42, hJ49, hJ56]; rfl
                  · skip
                    refine run_seq ?_
                    refine run_region ?_
                    refine RunL.cons (Op1.move (v := .int .i64 _) rfl ?_)
                    refine RunL.cons (Op1.lss rfl rfl ?_)
                    refine RunL.cons (Op1.move (v := .bool _) rfl ?_)
                    refine RunL.splitD (d := 64) rfl (fun g58 => ?_) (fun g58 => ?_)
                    · skip
                      refine RunL.omit (t := 64) rfl (congrArg Value.bool (decide_eq_true g58)) rfl ?_
                      refine RunL.omit (t := 64) rfl (congrArg Value.bool (decide_eq_true g58)) rfl ?_
                      refine RunL.omit (t := 64) rfl (congrArg Value.bool (decide_eq_true g58)) rfl ?_
                      refine RunL.omitU (t := 67) rfl rfl ?_
                      refine RunL.omitU (t := 67) rfl rfl ?_
                      refine RunL.omitU (t := 67) rfl rfl ?_
                      refine RunL.omitU (t := 67) rfl rfl ?_
                      refine RunL.omit (t := 64) rfl (congrArg Value.bool (decide_eq_true g58)) rfl ?_
                      refine RunL.cons (Op1.pickT (u := .bool _) (congrArg Value.bool (decide_eq_true g58)) rfl ?_)
                      refine RunL.nil ?_
                      refine run_cond_true (congrArg Value.bool (rfl : true = _)) ?_
                      refine run_seq ?_
                      refine run_region ?_
                      refine RunL.cons (Op1.assign (v := .bool _) rfl ?_)
                      refine RunL.nil ?_
                      refine run_ret1 Try.func35 rfl (RV.tmp (v := .bool _) rfl) ?_
                      refine ⟨congrArg Value.bool (Eq.symm ?_), hst.pure⟩
                      rw [coversZ_in (by omega) g5, if_neg g6, in3]
                      have hf := inZ_neg g58
                      rw [hJ42, hJ49, hf]; simp
                    · skip
                      refine RunL.take (t := 64) rfl (congrArg Value.bool (decide_eq_false g58)) (Op1.move (v := .int .i64 _) rfl ?_)
                      refine RunL.take (t := 64) rfl (congrArg Value.bool (decide_eq_false g58)) (Op1.eql rfl rfl ?_)
                      refine RunL.take (t := 64) rfl (congrArg Value.bool (decide_eq_false g58)) (Op1.move (v := .bool _) rfl ?_)
                      refine RunL.splitD (d := 67) rfl (fun g59 => ?_) (fun g59 => ?_)
                      · skip
                        refine RunL.take (t := 67) rfl (congrArg Value.bool (decide_eq_true g59)) (Op1.loadA (vs := [.int .i32 _, .int .i32 _, .int .i32 _]) ty25 rfl rfl rfl (cells_of_obj (n := 3) (hst.objL (.tail _ (.head _))) _ rfl) ?_)
                        refine RunL.take (t := 67) rfl (congrArg Value.bool (decide_eq_true g59)) (Op1.loadA (vs := [.int .i32 _, .int .i32 _, .int .i32 _]) ty25 rfl rfl rfl (cells_of_obj (n := 3) (hst.objL (.head _)) _ rfl) ?_)
                        refine RunL.take (t := 67) rfl (congrArg Value.bool (decide_eq_true g59)) (Op1.call2 (v1 := .agg #[.int .i32 _, .int .i32 _, .int .i32 _]) (v2 := .agg #[.int .i32 _, .int .i32 _, .int .i32 _]) ent30 rfl rfl rfl ((ref_top _ _ _ _ _ _ _).mono fun v w hp => ?_))
                        obtain ⟨rfl, hp⟩ := hp
                        replace hst := hst.keepc hp
                        clear hp
                        refine RunL.take (t := 67) rfl (congrArg Value.bool (decide_eq_true g59)) (Op1.not rfl ?_)
                        refine RunL.take (t := 64) rfl (congrArg Value.bool (decide_eq_false g58)) (Op1.pickT (u := .bool _) (congrArg Value.bool (decide_eq_true g59)) rfl ?_)
                        refine RunL.cons (Op1.pickF (u := .bool _) (congrArg Value.bool (decide_eq_false g58)) rfl ?_)
                        refine RunL.nil ?_
                        refine run_cond_split rfl (fun g60 => ?_) (fun g60 => ?_)
                        · skip
                          refine run_seq ?_
                          refine run_region ?_
                          refine RunL.cons (Op1.assign (v := .bool _) rfl ?_)
                          refine RunL.nil ?_
                          refine run_ret1 Try.func35 rfl (RV.tmp (v := .bool _) rfl) ?_
                          refine ⟨congrArg Value.bool (Eq.symm ?_), hst.pure⟩
                          rw [coversZ_in (by omega) g5, if_neg g6, in3]
                          have hf := inZ_ntop g59 g60
                          rw [hJ42, hJ49, hf]; simp
                        · skip
                          refine run_skip ?_
                          exact cut55 _ w hst (inZ_top g59 g60) ⟨rfl, rfl, rfl, rfl, trivial⟩
                      · skip
                        refine RunL.omit (t := 67) rfl (congrArg Value.bool (decide_eq_false g59)) rfl ?_
                        refine RunL.omit (t := 67) rfl (congrArg Value.bool (decide_eq_false g59)) rfl ?_
                        refine RunL.omit (t := 67) rfl (congrArg Value.bool (decide_eq_false g59)) rfl ?_
                        refine RunL.omit (t := 67) rfl (congrArg Value.bool (decide_eq_false g59)) rfl ?_
                        refine RunL.take (t := 64) rfl (congrArg Value.bool (decide_eq_false g58)) (Op1.pickF (u := .bool _) (congrArg Value.bool (decide_eq_false g59)) rfl ?_)
                        refine RunL.cons (Op1.pickF (u := .bool _) (congrArg Value.bool (decide_eq_false g58)) rfl ?_)
                        refine RunL.nil ?_
                        refine run_cond_false (congrArg Value.bool (rfl : false = _)) ?_
                        refine run_skip ?_
                        exact cut55 _ w hst (inZ_pos g58 g59) ⟨rfl, rfl, rfl, rfl, trivial⟩
                · skip
                  refine run_seq ?_
                  refine run_region ?_
                  refine RunL.cons (Op1.move (v := .int .i64 _) rfl ?_)
                  refine RunL.cons (Op1.lss rfl rfl ?_)
                  refine RunL.cons (Op1.move (v := .bool _) rfl ?_)
                  refine RunL.splitD (d := 64) rfl (fun g61 => ?_) (fun g61 => ?_)
                  · skip
                    refine RunL.omit (t := 64) rfl (congrArg Value.bool (decide_eq_true g61)) rfl ?_
                    refine RunL.omit (t := 64) rfl (congrArg Value.bool (decide_eq_true g61)) rfl ?_
                    refine RunL.omit (t := 64) rfl (congrArg Value.bool (decide_eq_true g61)) rfl ?_
                    refine RunL.omitU (t := 67) rfl rfl ?_
                    refine RunL.omitU (t := 67) rfl rfl ?_
                    refine RunL.omitU (t := 67) rfl rfl ?_
                    refine RunL.omitU (t := 67) rfl rfl ?_
                    refine RunL.omit (t := 64) rfl (congrArg Value.bool (decide_eq_true g61)) rfl ?_
                    refine RunL.cons (Op1.pickT (u := .bool _) (congrArg Value.bool (decide_eq_true g61)) rfl ?_)
                    refine RunL.nil ?_
                    refine run_cond_true (congrArg Value.bool (rfl : true = _)) ?_
                    refine run_seq ?_
                    refine run_region ?_
                    refine RunL.cons (Op1.assign (v := .bool _) rfl ?_)
                    refine RunL.nil ?_
                    refine run_ret1 Try.func35 rfl (RV.tmp (v := .bool _) rfl) ?_
                    refine ⟨congrArg Value.bool (Eq.symm ?_), hst.pure⟩
                    rw [coversZ_in (by omega) g5, if_neg g6, in3]
                    have hf := inZ_neg g61
                    rw [hJ42, hf]; simp
                  · skip
                    refine RunL.take (t := 64) rfl (congrArg Value.bool (decide_eq_false g61)) (Op1.move (v := .int .i64 _) rfl ?_)
                    refine RunL.take (t := 64) rfl (congrArg Value.bool (decide_eq_false g61)) (Op1.eql rfl rfl ?_)
                    refine RunL.take (t := 64) rfl (congrArg Value.bool (decide_eq_false g61)) (Op1.move (v := .bool _) rfl ?_)
                    refine RunL.splitD (d := 67) rfl (fun g62 => ?_) (fun g62 => ?_)
                    · skip
                      refine RunL.take (t := 67) rfl (congrArg Value.bool (decide_eq_true g62)) (Op1.loadA (vs := [.int .i32 _, .int .i32 _, .int .i32 _]) ty25 rfl rfl rfl (cells_of_obj (n := 3) (hst.objL (.tail _ (.head _))) _ rfl) ?_)
                      refine RunL.take (t := 67) rfl (congrArg Value.bool (decide_eq_true g62)) (Op1.loadA (vs := [.int .i32 _, .int .i32 _, .int .i32 _]) ty25 rfl rfl rfl (cells_of_obj (n := 3) (hst.objL (.head _)) _ rfl) ?_)
                      refine RunL.take (t := 67) rfl (congrArg Value.bool (decide_eq_true g62)) (Op1.call2 (v1 := .agg #[.int .i32 _, .int .i32 _, .int .i32 _]) (v2 := .agg #[.int .i32 _, .int .i32 _, .int .i32 _]) ent30 rfl rfl rfl ((ref_top _ _ _ _ _ _ _).mono fun v w hp => ?_))
                      obtain ⟨rfl, hp⟩ := hp
                      replace hst := hst.keepc hp
                      clear hp
                      refine RunL.take (t := 67) rfl (congrArg Value.bool (decide_eq_true g62)) (Op1.not rfl ?_)
                      refine RunL.take (t := 64) rfl (congrArg Value.bool (decide_eq_false g61)) (Op1.pickT (u := .bool _) (congrArg Value.bool (decide_eq_true g62)) rfl ?_)
                      refine RunL.cons (Op1.pickF (u := .bool _) (congrArg Value.bool (decide_eq_false g61)) rfl ?_)
                      refine RunL.nil ?_
                      refine run_cond_split rfl (fun g63 => ?_) (fun g63 => ?_)
                      · skip
                        refine run_seq ?_
                        refine run_region ?_
                        refine RunL.cons (Op1.assign (v := .bool _) rfl ?_)
                        refine RunL.nil ?_
                        refine run_ret1 Try.func35 rfl (RV.tmp (v := .bool _) rfl) ?_
                        refine ⟨congrArg Value.bool (Eq.symm ?_), hst.pure⟩
                        rw [coversZ_in (by omega) g5, if_neg g6, in3]
                        have hf := inZ_ntop g62 g63
                        rw [hJ42, hf]; simp
                      · skip
                        refine run_skip ?_
                        exact cut48 _ w hst (inZ_top g62 g63) ⟨rfl, rfl, rfl, rfl, trivial⟩
                    · skip
                      refine RunL.omit (t := 67) rfl (congrArg Value.bool (decide_eq_false g62)) rfl ?_
                      refine RunL.omit (t := 67) rfl (congrArg Value.bool (decide_eq_false g62)) rfl ?_
                      refine RunL.omit (t := 67) rfl (congrArg Value.bool (decide_eq_false g62)) rfl ?_
                      refine RunL.omit (t := 67) rfl (congrArg Value.bool (decide_eq_false g62)) rfl ?_
                      refine RunL.take (t := 64) rfl (congrArg Value.bool (decide_eq_false g61)) (Op1.pickF (u := .bool _) (congrArg Value.bool (decide_eq_false g62)) rfl ?_)
                      refine RunL.cons (Op1.pickF (u := .bool _) (congrArg Value.bool (decide_eq_false g61)) rfl ?_)
                      refine RunL.nil ?_
                      refine run_cond_false (congrArg Value.bool (rfl : false = _)) ?_
                      refine run_skip ?_
                      exact cut48 _ w hst (inZ_pos g61 g62) ⟨rfl, rfl, rfl, rfl, trivial⟩
              · skip
                refine run_seq ?_
                refine run_region ?_
                refine RunL.cons (Op1.move (v := .int .i64 _) rfl ?_)
                refine RunL.cons (Op1.lss rfl rfl ?_)
                refine RunL.cons (Op1.move (v := .bool _) rfl ?_)
                refine RunL.splitD (d := 64) rfl (fun g64 => ?_) (fun g64 => ?_)
                · skip
                  refine RunL.omit (t := 64) rfl (congrArg Value.bool (decide_eq_true g64)) rfl ?_
                  refine RunL.omit (t := 64) rfl (congrArg Value.bool (decide_eq_true g64)) rfl ?_
                  refine RunL.omit (t := 64) rfl (congrArg Value.bool (decide_eq_true g64)) rfl ?_
                  refine RunL.omitU (t := 67) rfl rfl ?_
                  refine RunL.omitU (t := 67) rfl rfl ?_
                  refine RunL.omitU (t := 67) rfl rfl ?_
                  refine RunL.omitU (t := 67) rfl rfl ?_
                  refine RunL.omit (t := 64) rfl (congrArg Value.bool (decide_eq_true g64)) rfl ?_
                  refine RunL.cons (Op1.pickT (u := .bool _) (congrArg Value.bool (decide_eq_true g64)) rfl ?_)
                  refine RunL.nil ?_
                  refine run_cond_true (congrArg Value.bool (rfl : true = _)) ?_
                  refine run_seq ?_
                  refine run_region ?_
                  refine RunL.cons (Op1.assign (v := .bool _) rfl ?_)
                  refine RunL.nil ?_
                  refine run_ret1 Try.func35 rfl (RV.tmp (v := .bool _) rfl) ?_
                  refine ⟨congrArg Value.bool (Eq.symm ?_), hst.pure⟩
                  rw [coversZ_in (by omega) g5, if_neg g6, in3]
                  have hf := inZ_neg g64
                  rw [hf]; simp
                · skip
                  refine RunL.take (t := 64) rfl (congrArg Value.bool (decide_eq_false g64)) (Op1.move (v := .int .i64 _) rfl ?_)
                  refine RunL.take (t := 64) rfl (congrArg Value.bool (decide_eq_false g64)) (Op1.eql rfl rfl ?_)
                  refine RunL.take (t := 64) rfl (congrArg Value.bool (decide_eq_false g64)) (Op1.move (v := .bool _) rfl ?_)
                  refine RunL.splitD (d := 67) rfl (fun g65 => ?_) (fun g65 => ?_)
                  · skip
                    refine RunL.take (t := 67) rfl (congrArg Value.bool (decide_eq_true g65)) (Op1.loadA (vs := [.int .i32 _, .int .i32 _, .int .i32 _]) ty25 rfl rfl rfl (cells_of_obj (n := 3) (hst.objL (.tail _ (.head _))) _ rfl) ?_)
                    refine RunL.take (t := 67) rfl (congrArg Value.bool (decide_eq_true g65)) (Op1.loadA (vs := [.int .i32 _, .int .i32 _, .int .i32 _]) ty25 rfl rfl rfl (cells_of_obj (n := 3) (hst.objL (.head _)) _ rfl) ?_)
                    refine RunL.take (t := 67) rfl (congrArg Value.bool (decide_eq_true g65)) (Op1.call2 (v1 := .agg #[.int .i32 _, .int .i32 _, .int .i32 _]) (v2 := .agg #[.int .i32 _, .int .i32 _, .int .i32 _]) ent30 rfl rfl rfl ((ref_top _ _ _ _ _ _ _).mono fun v w hp => ?_))
                    obtain ⟨rfl, hp⟩ := hp
                    replace hst := hst.keepc hp
                    clear hp
                    refine RunL.take (t := 67) rfl (congrArg Value.bool (decide_eq_true g65)) (Op1.not rfl ?_)
                    refine RunL.take (t := 64) rfl (congrArg Value.bool (decide_eq_false g64)) (Op1.pickT (u := .bool _) (congrArg Value.bool (decide_eq_true g65)) rfl ?_)
                    refine RunL.cons (Op1.pickF (u := .bool _) (congrArg Value.bool (decide_eq_false g64)) rfl ?_)
                    refine RunL.nil ?_
                    refine run_cond_split rfl (fun g66 => ?_) (fun g66 => ?_)
                    · skip
                      refine run_seq ?_
                      refine run_region ?_
                      refine RunL.cons (Op1.assign (v := .bool _) rfl ?_)
                      refine RunL.nil ?_
                      refine run_ret1 Try.func35 rfl (RV.tmp (v := .bool _) rfl) ?_
                      refine ⟨congrArg Value.bool (Eq.symm ?_), hst.pure⟩
                      rw [coversZ_in (by omega) g5, if_neg g6, in3]
                      have hf := inZ_ntop g65 g66
                      rw [hf]; simp
                    · skip
                      refine run_skip ?_
                      exact cut41 _ w hst (inZ_top g65 g66) ⟨rfl, rfl, rfl, rfl, trivial⟩
                  · skip
                    refine RunL.omit (t := 67) rfl (congrArg Value.bool (decide_eq_false g65)) rfl ?_
                    refine RunL.omit (t := 67) rfl (congrArg Value.bool (decide_eq_false g65)) rfl ?_
                    refine RunL.omit (t := 67) rfl (congrArg Value.bool (decide_eq_false g65)) rfl ?_
                    refine RunL.omit (t := 67) rfl (congrArg Value.bool (decide_eq_false g65)) rfl ?_
                    refine RunL.take (t := 64) rfl (congrArg Value.bool (decide_eq_false g64)) (Op1.pickF (u := .bool _) (congrArg Value.bool (decide_eq_false g65)) rfl ?_)
                    refine RunL.cons (Op1.pickF (u := .bool _) (congrArg Value.bool (decide_eq_false g64)) rfl ?_)
                    refine RunL.nil ?_
                    refine run_cond_false (congrArg Value.bool (rfl : false = _)) ?_
                    refine run_skip ?_
                    exact cut41 _ w hst (inZ_pos g64 g65) ⟨rfl, rfl, rfl, rfl, trivial⟩

end Go.SK
