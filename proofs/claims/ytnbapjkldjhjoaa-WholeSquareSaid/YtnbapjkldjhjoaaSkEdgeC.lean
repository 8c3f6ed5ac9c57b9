/-
  Walks of functions, and of the laws over them.
-/
import Derived.Test.YtnbapjkldjhjoaaSkFacts1
import Derived.Test.YtnbapjkldjhjoaaSkEdgeA
import Derived.Test.YtnbapjkldjhjoaaSkEdgeB
import Derived.Test.YtnbapjkldjhjoaaSkI
set_option linter.unusedVariables false
set_option linter.unusedSimpArgs false
namespace Go.SK
open Go Go.Proofs
open Go.RowKit
def in3 (ax ay bx by_ cx cy mx my : Int) : Bool := inZ ax ay bx by_ mx my && inZ bx by_ cx cy mx my && inZ cx cy ax ay mx my
/-- the pixel (x, y) is covered -/
def coversZ (ax ay bx by_ cx cy x y : Int) : Bool :=
  if x < 0 ∨ y < 0 ∨ 1024 ≤ x ∨ 1024 ≤ y then false
  else if sideZ ax ay bx by_ cx cy = 0 then false
  else if sideZ ax ay bx by_ cx cy < 0 then in3 ax ay cx cy bx by_ (16 * x + 8) (16 * y + 8)
  else in3 ax ay bx by_ cx cy (16 * x + 8) (16 * y + 8)
def holdsB (x0 y0 x1 y1 x2 y2 mx my : Int) (i : Nat) : Bool := inZ (pt3 x0 x1 x2 i) (pt3 y0 y1 y2 i) (pt3 x0 x1 x2 ((i + 1) % 3)) (pt3 y0 y1 y2 ((i + 1) % 3)) mx my
theorem pt3_bd {a b c : Int} (ha : InC a) (hb : InC b) (hc : InC c) (i : Nat) : InC (pt3 a b c i) := by
  unfold pt3; split <;> assumption
theorem side_degen (ax ay bx by_ cx cy : Int) (h : ax = bx ∧ ay = by_) : sideZ ax ay bx by_ cx cy = 0 := by
  obtain ⟨rfl, rfl⟩ := h; unfold sideZ; grind
theorem clampC (x : Int) : InC (clampZ x) := clampZ_bd x
theorem coversZ_out (ax ay bx by_ cx cy : Int) {x y : Int} (h : x < 0 ∨ y < 0 ∨ 1024 ≤ x ∨ 1024 ≤ y) : coversZ ax ay bx by_ cx cy x y = false := by
  unfold coversZ; rw [if_pos h]
theorem coversZ_zero {ax ay bx by_ cx cy : Int} (x y : Int) (h : sideZ ax ay bx by_ cx cy = 0) : coversZ ax ay bx by_ cx cy x y = false := by
  unfold coversZ
  by_cases hx : x < 0 ∨ y < 0 ∨ 1024 ≤ x ∨ 1024 ≤ y
  · rw [if_pos hx]
  · rw [if_neg hx, if_pos h]
theorem coversZ_neg {ax ay bx by_ cx cy : Int} (x y : Int) (h : ¬ (x < 0 ∨ y < 0 ∨ 1024 ≤ x ∨ 1024 ≤ y)) (hs : sideZ ax ay bx by_ cx cy < 0) : coversZ ax ay bx by_ cx cy x y = (holdsB ax ay cx cy bx by_ (16 * x + 8) (16 * y + 8) 0 && holdsB ax ay cx cy bx by_ (16 * x + 8) (16 * y + 8) 1 && holdsB ax ay cx cy bx by_ (16 * x + 8) (16 * y + 8) 2) := by
  unfold coversZ; rw [if_neg h, if_neg (by omega), if_pos hs]; rfl
theorem coversZ_pos {ax ay bx by_ cx cy : Int} (x y : Int) (h : ¬ (x < 0 ∨ y < 0 ∨ 1024 ≤ x ∨ 1024 ≤ y)) (h0 : ¬ sideZ ax ay bx by_ cx cy = 0) (hs : ¬ sideZ ax ay bx by_ cx cy < 0) : coversZ ax ay bx by_ cx cy x y = (holdsB ax ay bx by_ cx cy (16 * x + 8) (16 * y + 8) 0 && holdsB ax ay bx by_ cx cy (16 * x + 8) (16 * y + 8) 1 && holdsB ax ay bx by_ cx cy (16 * x + 8) (16 * y + 8) 2) := by
  unfold coversZ; rw [if_neg h, if_neg h0, if_neg hs]; rfl
theorem edge_covers (ax ay az bx by_ bz cx cy cz : Int) (x y : Int) (w : World) : Ret Try.prog 34 #[.agg #[.int .i32 ax, .int .i32 ay, .int .i32 az, .int .i32 bx, .int .i32 by_, .int .i32 bz, .int .i32 cx, .int .i32 cy, .int .i32 cz], .int .i64 x, .int .i64 y] w (fun v w' => v = .bool (coversZ (clampZ ax) (clampZ ay) (clampZ bx) (clampZ by_) (clampZ cx) (clampZ cy) x y) ∧ St w NoM [] [] w') := by
  refine Ret.enter (args := [.agg #[.int .i32 ax, .int .i32 ay, .int .i32 az, .int .i32 bx, .int .i32 by_, .int .i32 bz, .int .i32 cx, .int .i32 cy, .int .i32 cz], .int .i64 x, .int .i64 y]) Try.func34 rfl rfl rfl ?_
  have hst := St.init w
  refine run_seq ?_
  refine run_region ?_
  refine RunL.cons (Op1.box (v := .agg #[.int .i32 _, .int .i32 _, .int .i32 _, .int .i32 _, .int .i32 _, .int .i32 _, .int .i32 _, .int .i32 _, .int .i32 _]) hst rfl rfl fun w b3 hst => ?_)
  refine RunL.cons (Op1.assign (v := .bool _) rfl ?_)
  refine RunL.nil ?_
  refine run_seq ?_
  refine run_seq ?_
  refine run_region ?_
  refine RunL.cons (Op1.move (v := .int .i64 _) rfl ?_)
  refine RunL.cons (Op1.lss rfl rfl ?_)
  refine RunL.cons (Op1.move (v := .bool _) rfl ?_)
  refine RunL.splitD (d := 12) rfl (fun g1 => ?_) (fun g1 => ?_)
  · skip
    refine RunL.omit (t := 12) rfl (congrArg Value.bool (decide_eq_true g1)) rfl ?_
    refine RunL.omit (t := 12) rfl (congrArg Value.bool (decide_eq_true g1)) rfl ?_
    refine RunL.cons (Op1.pickT (u := .bool _) (congrArg Value.bool (decide_eq_true g1)) rfl ?_)
    refine RunL.cons (Op1.move (v := .bool _) rfl ?_)
    refine RunL.omit (t := 16) rfl (congrArg Value.bool (rfl : true = _)) rfl ?_
    refine RunL.omit (t := 16) rfl (congrArg Value.bool (rfl : true = _)) rfl ?_
    refine RunL.cons (Op1.pickT (u := .bool _) (congrArg Value.bool (rfl : true = _)) rfl ?_)
    refine RunL.cons (Op1.move (v := .bool _) rfl ?_)
    refine RunL.omit (t := 20) rfl (congrArg Value.bool (rfl : true = _)) rfl ?_
    refine RunL.omit (t := 20) rfl (congrArg Value.bool (rfl : true = _)) rfl ?_
    refine RunL.cons (Op1.pickT (u := .bool _) (congrArg Value.bool (rfl : true = _)) rfl ?_)
    refine RunL.nil ?_
    refine run_cond_true (congrArg Value.bool (rfl : true = _)) ?_
    refine run_seq ?_
    refine run_region ?_
    refine RunL.cons (Op1.assign (v := .bool _) rfl ?_)
    refine RunL.nil ?_
    refine run_ret1 Try.func34 rfl (RV.tmp (v := .bool _) rfl) ?_
    refine ⟨congrArg Value.bool ?_, hst.pure⟩
    exact (coversZ_out _ _ _ _ _ _ (by omega)).symm
  · skip
    refine RunL.take (t := 12) rfl (congrArg Value.bool (decide_eq_false g1)) (Op1.move (v := .int .i64 _) rfl ?_)
    refine RunL.take (t := 12) rfl (congrArg Value.bool (decide_eq_false g1)) (Op1.lss rfl rfl ?_)
    refine RunL.cons (Op1.pickF (u := .bool _) (congrArg Value.bool (decide_eq_false g1)) rfl ?_)
    refine RunL.cons (Op1.move (v := .bool _) rfl ?_)
    refine RunL.splitD (d := 16) rfl (fun g2 => ?_) (fun g2 => ?_)
    · skip
      refine RunL.omit (t := 16) rfl (congrArg Value.bool (decide_eq_true g2)) rfl ?_
      refine RunL.omit (t := 16) rfl (congrArg Value.bool (decide_eq_true g2)) rfl ?_
      refine RunL.cons (Op1.pickT (u := .bool _) (congrArg Value.bool (decide_eq_true g2)) rfl ?_)
      refine RunL.cons (Op1.move (v := .bool _) rfl ?_)
      refine RunL.omit (t := 20) rfl (congrArg Value.bool (rfl : true = _)) rfl ?_
      refine RunL.omit (t := 20) rfl (congrArg Value.bool (rfl : true = _)) rfl ?_
      refine RunL.cons (Op1.pickT (u := .bool _) (congrArg Value.bool (rfl : true = _)) rfl ?_)
      refine RunL.nil ?_
      refine run_cond_true (congrArg Value.bool (rfl : true = _)) ?_
      refine run_seq ?_
      refine run_region ?_
      refine RunL.cons (Op1.assign (v := .bool _) rfl ?_)
      refine RunL.nil ?_
      refine run_ret1 Try.func34 rfl (RV.tmp (v := .bool _) rfl) ?_
      refine ⟨congrArg Value.bool ?_, hst.pure⟩
      exact (coversZ_out _ _ _ _ _ _ (by omega)).symm
    · skip
      refine RunL.take (t := 16) rfl (congrArg Value.bool (decide_eq_false g2)) (Op1.move (v := .int .i64 _) rfl ?_)
      refine RunL.take (t := 16) rfl (congrArg Value.bool (decide_eq_false g2)) (Op1.geq rfl rfl ?_)
      refine RunL.cons (Op1.pickF (u := .bool _) (congrArg Value.bool (decide_eq_false g2)) rfl ?_)
      refine RunL.cons (Op1.move (v := .bool _) rfl ?_)
      refine RunL.splitD (d := 20) rfl (fun g3 => ?_) (fun g3 => ?_)
      · skip
        refine RunL.omit (t := 20) rfl (congrArg Value.bool (decide_eq_true g3)) rfl ?_
        refine RunL.omit (t := 20) rfl (congrArg Value.bool (decide_eq_true g3)) rfl ?_
        refine RunL.cons (Op1.pickT (u := .bool _) (congrArg Value.bool (decide_eq_true g3)) rfl ?_)
        refine RunL.nil ?_
        refine run_cond_true (congrArg Value.bool (rfl : true = _)) ?_
        refine run_seq ?_
        refine run_region ?_
        refine RunL.cons (Op1.assign (v := .bool _) rfl ?_)
        refine RunL.nil ?_
        refine run_ret1 Try.func34 rfl (RV.tmp (v := .bool _) rfl) ?_
        refine ⟨congrArg Value.bool ?_, hst.pure⟩
        exact (coversZ_out _ _ _ _ _ _ (by omega)).symm
      · skip
        refine RunL.take (t := 20) rfl (congrArg Value.bool (decide_eq_false g3)) (Op1.move (v := .int .i64 _) rfl ?_)
        refine RunL.take (t := 20) rfl (congrArg Value.bool (decide_eq_false g3)) (Op1.geq rfl rfl ?_)
        refine RunL.cons (Op1.pickF (u := .bool _) (congrArg Value.bool (decide_eq_false g3)) rfl ?_)
        refine RunL.nil ?_
        refine run_cond_dec rfl (fun g4 => ?_) (fun g4 => ?_)
        · skip
          refine run_seq ?_
          refine run_region ?_
          refine RunL.cons (Op1.assign (v := .bool _) rfl ?_)
          refine RunL.nil ?_
          refine run_ret1 Try.func34 rfl (RV.tmp (v := .bool _) rfl) ?_
          refine ⟨congrArg Value.bool ?_, hst.pure⟩
          exact (coversZ_out _ _ _ _ _ _ (by omega)).symm
        · skip
          refine run_skip ?_
          refine run_seq ?_
          refine RunD.start [] hst (bs := [0, 1, 3, 0, 8, 31, 0, 64, 255, 511, 0, 2047]) (ds := [some 24, some 25, some 26, some 27, some 28, some 29, some 30, some 31, some 32, some 33, some 7, none]) ⟨by kernel_rfl, by kernel_rfl, by kernel_rfl⟩ (fun tab5 => ?_)
          refine RunD.op (det _) tab5 1 (fun f' L' w' hc => Op1.indexArr ty27 ty25 (hc.old (v := .pointer (some ⟨_, _, none⟩)) rfl rfl rfl) rfl (by decide) (by decide) ⟨[], ⟨rfl, rfl⟩, hc.st⟩) ?_
          refine RunD.op (det _) tab5 2 (fun f' L' w' hc => Op1.loadA (vs := [.int .i32 _, .int .i32 _, .int .i32 _]) ty25 rfl (hc.det (j := 0) rfl rfl rfl rfl) rfl (cells_of_obj (n := 3) (hc.st.objL (List.mem_append_right _ (.head _))) _ rfl) ⟨[], ⟨rfl, rfl⟩, hc.st⟩) ?_
          refine RunD.op (det _) tab5 3 (fun f' L' w' hc => Op1.call1 (v1 := .agg #[.int .i32 _, .int .i32 _, .int .i32 _]) ent52 rfl (hc.det (j := 1) rfl rfl rfl rfl) ((edge_held _ _ _ _).mono fun v w hp => ⟨[], ⟨hp.1, rfl⟩, hc.st.keepc hp.2⟩)) ?_
          refine RunD.op (det _) tab5 4 (fun f' L' w' hc => Op1.indexArr ty27 ty25 (hc.old (v := .pointer (some ⟨_, _, none⟩)) rfl rfl rfl) rfl (by decide) (by decide) ⟨[], ⟨rfl, rfl⟩, hc.st⟩) ?_
          refine RunD.op (det _) tab5 5 (fun f' L' w' hc => Op1.loadA (vs := [.int .i32 _, .int .i32 _, .int .i32 _]) ty25 rfl (hc.det (j := 3) rfl rfl rfl rfl) rfl (cells_of_obj (n := 3) (hc.st.objL (List.mem_append_right _ (.head _))) _ rfl) ⟨[], ⟨rfl, rfl⟩, hc.st⟩) ?_
          refine RunD.op (det _) tab5 6 (fun f' L' w' hc => Op1.call1 (v1 := .agg #[.int .i32 _, .int .i32 _, .int .i32 _]) ent52 rfl (hc.det (j := 4) rfl rfl rfl rfl) ((edge_held _ _ _ _).mono fun v w hp => ⟨[], ⟨hp.1, rfl⟩, hc.st.keepc hp.2⟩)) ?_
          refine RunD.op (det _) tab5 7 (fun f' L' w' hc => Op1.indexArr ty27 ty25 (hc.old (v := .pointer (some ⟨_, _, none⟩)) rfl rfl rfl) rfl (by decide) (by decide) ⟨[], ⟨rfl, rfl⟩, hc.st⟩) ?_
          refine RunD.op (det _) tab5 8 (fun f' L' w' hc => Op1.loadA (vs := [.int .i32 _, .int .i32 _, .int .i32 _]) ty25 rfl (hc.det (j := 6) rfl rfl rfl rfl) rfl (cells_of_obj (n := 3) (hc.st.objL (List.mem_append_right _ (.head _))) _ rfl) ⟨[], ⟨rfl, rfl⟩, hc.st⟩) ?_
          refine RunD.op (det _) tab5 9 (fun f' L' w' hc => Op1.call1 (v1 := .agg #[.int .i32 _, .int .i32 _, .int .i32 _]) ent52 rfl (hc.det (j := 7) rfl rfl rfl rfl) ((edge_held _ _ _ _).mono fun v w hp => ⟨[], ⟨hp.1, rfl⟩, hc.st.keepc hp.2⟩)) ?_
          refine RunD.op (det _) tab5 10 (fun f' L' w' hc => Op1.buildArr ty91 ty76 (.cons rfl (v := .agg #[.int .i64 _, .int .i64 _]) (hc.det (j := 2) rfl rfl rfl rfl) rfl rfl rfl (by repeat (first | exact Put.nil | apply Put.put | apply Put.skip)) (.cons rfl (v := .agg #[.int .i64 _, .int .i64 _]) (hc.det (j := 5) rfl rfl rfl rfl) rfl rfl rfl (by repeat (first | exact Put.nil | apply Put.put | apply Put.skip)) (.cons rfl (v := .agg #[.int .i64 _, .int .i64 _]) (hc.det (j := 8) rfl rfl rfl rfl) rfl rfl rfl (by repeat (first | exact Put.nil | apply Put.put | apply Put.skip)) .nil))) ⟨[], ⟨rfl, rfl⟩, hc.st⟩) ?_
          refine RunD.op (fun v rs => ∃ b, v = .pointer (some ⟨b, 0, none⟩) ∧ rs = [Res.row b 91 [.int .i64 0, .int .i64 0, .int .i64 0, .int .i64 0, .int .i64 0, .int .i64 0]]) tab5 11 (fun f' L' w' hc => Op1.alloc hc.st ty91 fun w b hst => ⟨[_], ⟨b, rfl, rfl⟩, hst⟩) ?_
          refine RunD.fin followsMixed tab5 hst rfl (fun f6 w R9 hs7 hd8 hr10 hst => ?_)
          obtain ⟨h24_, r0⟩ := hd8 0 24 rfl rfl
          obtain ⟨h25_, r1⟩ := hd8 1 25 rfl rfl
          obtain ⟨h26_, r2⟩ := hd8 2 26 rfl rfl
          obtain ⟨h27_, r3⟩ := hd8 3 27 rfl rfl
          obtain ⟨h28_, r4⟩ := hd8 4 28 rfl rfl
          obtain ⟨h29_, r5⟩ := hd8 5 29 rfl rfl
          obtain ⟨h30_, r6⟩ := hd8 6 30 rfl rfl
          obtain ⟨h31_, r7⟩ := hd8 7 31 rfl rfl
          obtain ⟨h32_, r8⟩ := hd8 8 32 rfl rfl
          obtain ⟨h33_, r9⟩ := hd8 9 33 rfl rfl
          obtain ⟨b7, h7_, r10⟩ := hd8 10 7 rfl rfl
          simp only [show List.range 11 = [0, 1, 2, 3, 4, 5, 6, 7, 8, 9, 10] from rfl, List.flatMap_cons, List.flatMap_nil, List.map_cons, List.map_nil, r0, r1, r2, r3, r4, r5, r6, r7, r8, r9, r10, List.nil_append, List.append_nil, List.cons_append] at hst
          refine RunL.slots (sl := [(1, .int .i64 _), (2, .int .i64 _), (3, .pointer (some ⟨_, _, none⟩)), (7, .pointer (some ⟨_, _, none⟩)), (33, .agg #[.int .i64 _, .int .i64 _, .int .i64 _, .int .i64 _, .int .i64 _, .int .i64 _])]) ⟨(hs7 1 rfl).trans rfl, (hs7 2 rfl).trans rfl, (hs7 3 rfl).trans rfl, h7_, h33_, trivial⟩ ?_
          clear hs7 hd8 hr10 tab5
          refine RunL.cons (Op1.store (v := .agg #[.int .i64 _, .int .i64 _, .int .i64 _, .int .i64 _, .int .i64 _, .int .i64 _]) hst ty91 rfl rfl rfl rfl rfl (.here) (by repeat (first | exact Put.nil | apply Put.put | apply Put.skip)) fun w hst => ?_)
          refine RunL.nil ?_
          refine run_seq ?_
          refine run_region ?_
          refine RunL.cons (Op1.loadA (vs := [.int .i32 _, .int .i32 _, .int .i32 _, .int .i32 _, .int .i32 _, .int .i32 _, .int .i32 _, .int .i32 _, .int .i32 _]) ty27 rfl rfl rfl (cells_of_obj (n := 9) (hst.objL (.tail _ (.head _))) _ rfl) ?_)
          refine RunL.cons (Op1.call1 (v1 := .agg #[.int .i32 _, .int .i32 _, .int .i32 _, .int .i32 _, .int .i32 _, .int .i32 _, .int .i32 _, .int .i32 _, .int .i32 _]) ent23 rfl rfl ((edge_area _ _ _ _ _ _ _ _ _ _).mono fun v w hp => ?_))
          obtain ⟨rfl, hp⟩ := hp
          replace hst := hst.keepc hp
          clear hp
          refine RunL.cons (Op1.assign (v := .int .i64 _) rfl ?_)
          refine RunL.nil ?_
          refine run_seq ?_
          refine run_seq ?_
          refine run_region ?_
          refine RunL.cons (Op1.move (v := .int .i64 _) rfl ?_)
          refine RunL.cons (Op1.eql rfl rfl ?_)
          refine RunL.cons (Op1.move (v := .bool _) rfl ?_)
          refine RunL.splitD (d := 38) rfl (fun g11 => ?_) (fun g11 => ?_)
          · skip
            refine RunL.omit (t := 38) rfl (congrArg Value.bool (decide_eq_true g11)) rfl ?_
            refine RunL.omit (t := 38) rfl (congrArg Value.bool (decide_eq_true g11)) rfl ?_
            refine RunL.omit (t := 38) rfl (congrArg Value.bool (decide_eq_true g11)) rfl ?_
            refine RunL.omit (t := 38) rfl (congrArg Value.bool (decide_eq_true g11)) rfl ?_
            refine RunL.omit (t := 38) rfl (congrArg Value.bool (decide_eq_true g11)) rfl ?_
            refine RunL.omit (t := 38) rfl (congrArg Value.bool (decide_eq_true g11)) rfl ?_
            refine RunL.omit (t := 38) rfl (congrArg Value.bool (decide_eq_true g11)) rfl ?_
            refine RunL.omit (t := 38) rfl (congrArg Value.bool (decide_eq_true g11)) rfl ?_
            refine RunL.omit (t := 38) rfl (congrArg Value.bool (decide_eq_true g11)) rfl ?_
            refine RunL.omit (t := 38) rfl (congrArg Value.bool (decide_eq_true g11)) rfl ?_
            refine RunL.omit (t := 38) rfl (congrArg Value.bool (decide_eq_true g11)) rfl ?_
            refine RunL.cons (Op1.pickT (u := .bool _) (congrArg Value.bool (decide_eq_true g11)) rfl ?_)
            refine RunL.nil ?_
            refine run_cond_true (congrArg Value.bool (rfl : true = _)) ?_
            refine run_seq ?_
            refine run_region ?_
            refine RunL.cons (Op1.assign (v := .bool _) rfl ?_)
            refine RunL.nil ?_
            refine run_ret1 Try.func34 rfl (RV.tmp (v := .bool _) rfl) ?_
            refine ⟨congrArg Value.bool ?_, hst.pure⟩
            exact (coversZ_zero _ _ g11).symm
          · skip
            refine RunL.take (t := 38) rfl (congrArg Value.bool (decide_eq_false g11)) (Op1.indexArr ty91 ty76 rfl rfl (by decide) (by decide) ?_)
            refine RunL.take (t := 38) rfl (congrArg Value.bool (decide_eq_false g11)) (Op1.loadA (vs := [.int .i64 _, .int .i64 _]) ty76 rfl rfl rfl (cells_of_obj (n := 2) (hst.objL (.head _)) _ rfl) ?_)
            refine RunL.take (t := 38) rfl (congrArg Value.bool (decide_eq_false g11)) (Op1.indexArr ty91 ty76 rfl rfl (by decide) (by decide) ?_)
            refine RunL.take (t := 38) rfl (congrArg Value.bool (decide_eq_false g11)) (Op1.loadA (vs := [.int .i64 _, .int .i64 _]) ty76 rfl rfl rfl (cells_of_obj (n := 2) (hst.objL (.head _)) _ rfl) ?_)
            refine RunL.take (t := 38) rfl (congrArg Value.bool (decide_eq_false g11)) (Op1.buildArr ty79 ty76 (.cons rfl (v := .agg #[.int .i64 _, .int .i64 _]) rfl rfl rfl rfl (by repeat (first | exact Put.nil | apply Put.put | apply Put.skip)) (.cons rfl (v := .agg #[.int .i64 _, .int .i64 _]) rfl rfl rfl rfl (by repeat (first | exact Put.nil | apply Put.put | apply Put.skip)) .nil)) ?_)
            refine RunL.take (t := 38) rfl (congrArg Value.bool (decide_eq_false g11)) (Op1.indexArr ty91 ty76 rfl rfl (by decide) (by decide) ?_)
            refine RunL.take (t := 38) rfl (congrArg Value.bool (decide_eq_false g11)) (Op1.loadA (vs := [.int .i64 _, .int .i64 _]) ty76 rfl rfl rfl (cells_of_obj (n := 2) (hst.objL (.head _)) _ rfl) ?_)
            refine RunL.take (t := 38) rfl (congrArg Value.bool (decide_eq_false g11)) (Op1.indexArr ty91 ty76 rfl rfl (by decide) (by decide) ?_)
            refine RunL.take (t := 38) rfl (congrArg Value.bool (decide_eq_false g11)) (Op1.loadA (vs := [.int .i64 _, .int .i64 _]) ty76 rfl rfl rfl (cells_of_obj (n := 2) (hst.objL (.head _)) _ rfl) ?_)
            refine RunL.take (t := 38) rfl (congrArg Value.bool (decide_eq_false g11)) (Op1.buildArr ty79 ty76 (.cons rfl (v := .agg #[.int .i64 _, .int .i64 _]) rfl rfl rfl rfl (by repeat (first | exact Put.nil | apply Put.put | apply Put.skip)) (.cons rfl (v := .agg #[.int .i64 _, .int .i64 _]) rfl rfl rfl rfl (by repeat (first | exact Put.nil | apply Put.put | apply Put.skip)) .nil)) ?_)
            refine RunL.take (t := 38) rfl (congrArg Value.bool (decide_eq_false g11)) (Op1.eqlA (xs := [.int .i64 _, .int .i64 _, .int .i64 _, .int .i64 _]) (ys := [.int .i64 _, .int .i64 _, .int .i64 _, .int .i64 _]) rfl rfl (by kernel_rfl) (EqOk.array Try.underlying79 ty76 (.cons (PartOk.agg ty76 rfl rfl) (PartOk.agg ty76 rfl rfl) (EqOk.struct Try.underlying76 (by kernel_rfl) (.cons (by decide) (PartOk.one ty2 rfl rfl) (PartOk.one ty2 rfl rfl) (EqOk.int ty2) (.cons (by decide) (PartOk.one ty2 rfl rfl) (PartOk.one ty2 rfl rfl) (EqOk.int ty2) .nil))) (.cons (PartOk.agg ty76 rfl rfl) (PartOk.agg ty76 rfl rfl) (EqOk.struct Try.underlying76 (by kernel_rfl) (.cons (by decide) (PartOk.one ty2 rfl rfl) (PartOk.one ty2 rfl rfl) (EqOk.int ty2) (.cons (by decide) (PartOk.one ty2 rfl rfl) (PartOk.one ty2 rfl rfl) (EqOk.int ty2) .nil))) .nil))) ?_)
            refine RunL.cons (Op1.pickF (u := .bool _) (congrArg Value.bool (decide_eq_false g11)) rfl ?_)
            refine RunL.nil ?_
            refine run_cond_split rfl (fun g12 => ?_) (fun g12 => ?_)
            · skip
              exfalso
              simp at g12; exact g11 (side_degen _ _ _ _ _ _ (by omega))
            · skip
              refine run_skip ?_
              refine run_seq ?_
              refine run_seq ?_
              refine run_region ?_
              refine RunL.cons (Op1.move (v := .int .i64 _) rfl ?_)
              refine RunL.cons (Op1.lss rfl rfl ?_)
              refine RunL.nil ?_
              refine run_cond_dec rfl (fun g13 => ?_) (fun g13 => ?_)
              · skip
                refine run_region ?_
                refine RunL.cons (Op1.indexArr ty91 ty76 rfl rfl (by decide) (by decide) ?_)
                refine RunL.cons (Op1.loadA (vs := [.int .i64 _, .int .i64 _]) ty76 rfl rfl rfl (cells_of_obj (n := 2) (hst.objL (.head _)) _ rfl) ?_)
                refine RunL.cons (Op1.indexArr ty91 ty76 rfl rfl (by decide) (by decide) ?_)
                refine RunL.cons (Op1.loadA (vs := [.int .i64 _, .int .i64 _]) ty76 rfl rfl rfl (cells_of_obj (n := 2) (hst.objL (.head _)) _ rfl) ?_)
                refine RunL.cons (Op1.indexArr ty91 ty76 rfl rfl (by decide) (by decide) ?_)
                refine RunL.cons (Op1.store (v := .agg #[.int .i64 _, .int .i64 _]) hst ty76 rfl rfl rfl rfl rfl (.here) (by repeat (first | exact Put.nil | apply Put.put | apply Put.skip)) fun w hst => ?_)
                refine RunL.cons (Op1.indexArr ty91 ty76 rfl rfl (by decide) (by decide) ?_)
                refine RunL.cons (Op1.store (v := .agg #[.int .i64 _, .int .i64 _]) hst ty76 rfl rfl rfl rfl rfl (.here) (by repeat (first | exact Put.nil | apply Put.put | apply Put.skip)) fun w hst => ?_)
                refine RunL.nil ?_
                refine run_seq ?_
                refine run_region ?_
                refine RunL.cons (Op1.move (v := .int .i64 _) rfl ?_)
                first | refine RunL.cons (Op1.mulN rfl rfl rfl (wrap_i64 (by omega) (by omega)) ?_) | refine RunL.cons (Op1.mulB rfl rfl (by omega) (by omega) (by omega) (by omega) (fun hm14 hm15 => ?_))
                refine RunL.cons (Op1.addN rfl rfl rfl (wrap_i64 (by omega) (by omega)) ?_)
                refine RunL.cons (Op1.move (v := .int .i64 _) rfl ?_)
                first | refine RunL.cons (Op1.mulN rfl rfl rfl (wrap_i64 (by omega) (by omega)) ?_) | refine RunL.cons (Op1.mulB rfl rfl (by omega) (by omega) (by omega) (by omega) (fun hm16 hm17 => ?_))
                refine RunL.cons (Op1.addN rfl rfl rfl (wrap_i64 (by omega) (by omega)) ?_)
                refine RunL.cons (Op1.buildStruct ty76 stf76 (.cons rfl (v := .int .i64 _) rfl rfl rfl rfl (by repeat (first | exact Put.nil | apply Put.put | apply Put.skip)) (.cons rfl (v := .int .i64 _) rfl rfl rfl rfl (by repeat (first | exact Put.nil | apply Put.put | apply Put.skip)) .nil)) ?_)
                refine RunL.cons (Op1.alloc hst ty76 fun w b9 hst => ?_)
                refine RunL.cons (Op1.store (v := .agg #[.int .i64 _, .int .i64 _]) hst ty76 rfl rfl rfl rfl rfl (.here) (by repeat (first | exact Put.nil | apply Put.put | apply Put.skip)) fun w hst => ?_)
                refine RunL.nil ?_
                refine run_seq ?_
                refine run_region ?_
                refine RunL.cons (Op1.loadA (vs := [.int .i64 _, .int .i64 _, .int .i64 _, .int .i64 _, .int .i64 _, .int .i64 _]) ty91 rfl rfl rfl (cells_of_obj (n := 6) (hst.objL (.tail _ (.head _))) _ rfl) ?_)
                refine RunL.cons (Op1.makeFunc ?_)
                refine RunL.cons (Op1.call2 (v1 := .agg #[.int .i64 _, .int .i64 _, .int .i64 _, .int .i64 _, .int .i64 _, .int .i64 _]) (v2 := .func _ _ _) ent61 rfl rfl rfl ((edge_all _ _ _ _ _ _ _ _ (holdsB _ _ _ _ _ _ (16 * x + 8) (16 * y + 8)) _ (fun i hi w1 hk1 => CallV.func (cap := [_]) ent62 ((covers_fun _ _ _ _ _ _ ⟨pt3_bd (clampC _) (clampC _) (clampC _) _, pt3_bd (clampC _) (clampC _) (clampC _) _, pt3_bd (clampC _) (clampC _) (clampC _) _, pt3_bd (clampC _) (clampC _) (clampC _) _, by unfold InM; omega, by unfold InM; omega⟩ _ _ ((hst.keep hk1).objL (.head _)))))).mono fun v w hp => ?_))
                obtain ⟨rfl, hp⟩ := hp
                replace hst := hst.keepc hp
                clear hp
                refine RunL.cons (Op1.assign (v := .bool _) rfl ?_)
                refine RunL.nil ?_
                refine run_ret1 Try.func34 rfl (RV.tmp (v := .bool _) rfl) ?_
                refine ⟨congrArg Value.bool ?_, hst.pure⟩
                exact (coversZ_neg _ _ (by omega) g13).symm
              · skip
                refine run_skip ?_
                refine run_seq ?_
                refine run_region ?_
                refine RunL.cons (Op1.move (v := .int .i64 _) rfl ?_)
                first | refine RunL.cons (Op1.mulN rfl rfl rfl (wrap_i64 (by omega) (by omega)) ?_) | refine RunL.cons (Op1.mulB rfl rfl (by omega) (by omega) (by omega) (by omega) (fun hm18 hm19 => ?_))
                refine RunL.cons (Op1.addN rfl rfl rfl (wrap_i64 (by omega) (by omega)) ?_)
                refine RunL.cons (Op1.move (v := .int .i64 _) rfl ?_)
                first | refine RunL.cons (Op1.mulN rfl rfl rfl (wrap_i64 (by omega) (by omega)) ?_) | refine RunL.cons (Op1.mulB rfl rfl (by omega) (by omega) (by omega) (by omega) (fun hm20 hm21 => ?_))
                refine RunL.cons (Op1.addN rfl rfl rfl (wrap_i64 (by omega) (by omega)) ?_)
                refine RunL.cons (Op1.buildStruct ty76 stf76 (.cons rfl (v := .int .i64 _) rfl rfl rfl rfl (by repeat (first | exact Put.nil | apply Put.put | apply Put.skip)) (.cons rfl (v := .int .i64 _) rfl rfl rfl rfl (by repeat (first | exact Put.nil | apply Put.put | apply Put.skip)) .nil)) ?_)
                refine RunL.cons (Op1.alloc hst ty76 fun w b9 hst => ?_)
                refine RunL.cons (Op1.store (v := .agg #[.int .i64 _, .int .i64 _]) hst ty76 rfl rfl rfl rfl rfl (.here) (by repeat (first | exact Put.nil | apply Put.put | apply Put.skip)) fun w hst => ?_)
                refine RunL.nil ?_
                refine run_seq ?_
                refine run_region ?_
                refine RunL.cons (Op1.loadA (vs := [.int .i64 _, .int .i64 _, .int .i64 _, .int .i64 _, .int .i64 _, .int .i64 _]) ty91 rfl rfl rfl (cells_of_obj (n := 6) (hst.objL (.tail _ (.head _))) _ rfl) ?_)
                refine RunL.cons (Op1.makeFunc ?_)
                refine RunL.cons (Op1.call2 (v1 := .agg #[.int .i64 _, .int .i64 _, .int .i64 _, .int .i64 _, .int .i64 _, .int .i64 _]) (v2 := .func _ _ _) ent61 rfl rfl rfl ((edge_all _ _ _ _ _ _ _ _ (holdsB _ _ _ _ _ _ (16 * x + 8) (16 * y + 8)) _ (fun i hi w1 hk1 => CallV.func (cap := [_]) ent62 ((covers_fun _ _ _ _ _ _ ⟨pt3_bd (clampC _) (clampC _) (clampC _) _, pt3_bd (clampC _) (clampC _) (clampC _) _, pt3_bd (clampC _) (clampC _) (clampC _) _, pt3_bd (clampC _) (clampC _) (clampC _) _, by unfold InM; omega, by unfold InM; omega⟩ _ _ ((hst.keep hk1).objL (.head _)))))).mono fun v w hp => ?_))
                obtain ⟨rfl, hp⟩ := hp
                replace hst := hst.keepc hp
                clear hp
                refine RunL.cons (Op1.assign (v := .bool _) rfl ?_)
                refine RunL.nil ?_
                refine run_ret1 Try.func34 rfl (RV.tmp (v := .bool _) rfl) ?_
                refine ⟨congrArg Value.bool ?_, hst.pure⟩
                exact (coversZ_pos _ _ (by omega) g11 g13).symm

end Go.SK
