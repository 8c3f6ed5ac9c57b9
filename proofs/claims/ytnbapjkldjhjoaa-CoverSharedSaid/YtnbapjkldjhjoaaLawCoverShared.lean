/-
  The law CoverShared holds of every input: called with whatever arguments, it returns true, and every argument reads behind the call as it read before.
  No condition.
-/
import Derived.Test.YtnbapjkldjhjoaaRows
import Derived.Test.YtnbapjkldjhjoaaSkG
import Derived.Test.YtnbapjkldjhjoaaSkCoverG
set_option linter.unusedVariables false
set_option linter.unusedSimpArgs false
namespace Go.Proofs.Ytnbapjkldjhjoaa
open Go.ChangeShapes Go.WideShapes Go.ChangeAt Go.RowKit Go.SK

theorem CoverShared_own : ownKnob Try.prog.godebug = none := by kernel_rfl
theorem CoverShared_out : laidOutB Try.prog = true := by kernel_rfl
set_option maxRecDepth 100000 in
theorem CoverShared_lifted (os : Os) (started : os.Started) (H : Type) (enc : TypeId × Value → H) :
    ReturnsInHanded {} Try.checked os 17 .any (Rows.coverSharedSpec.pre6 enc Try.prog Try.f17 Rows.coverSharedRow.domain false) (Rows.coverSharedSpec.post enc Try.prog Try.f17 false true false false) := by
  refine returnsInHanded_of_change (C := Try.checked) CoverShared_own started (by kernel_rfl) Try.func17
    (ChangeSpec.witness6 (enc := enc) (C := Try.checked) false ⟨#[], #[.agg #[.int .i32 0, .int .i32 0, .int .i32 0], .agg #[.int .i32 0, .int .i32 0, .int .i32 0], .agg #[.int .i32 0, .int .i32 0, .int .i32 0], .agg #[.int .i32 0, .int .i32 0, .int .i32 0], .int .i64 0, .int .i64 0], []⟩ 8 (by kernel_rfl) (by kernel_rfl) (by kernel_rfl) (by kernel_rfl)) ?_
  intro W base args ds gs before hval0 hW hcnd _
  have hval : ∀ (j : Nat) t v, Try.f17.params[j]? = some t → args[j]? = some v → Value.okWide Try.prog W .any base t v := hval0
  have hW' := hW
  obtain ⟨p, q, hA0, hV, rfl, hfz, hnd⟩ := hW
  have hA : DataW.TrodAll enc Try.prog W 0 (fun _ => true) true Try.f17.params.toList args.toList ds p := hA0
  rw [Try.params17] at hA hval
  have hlt := trodAll_lt _ _ _ _ hA
  obtain ⟨v0, vs0, d0, ds0, p0, q0, hargs, rfl, hp0, h0, r0⟩ := trodAll_cons hA
  obtain ⟨v1, vs1, d1, ds1, p1, q1, hargs1, rfl, hp1, h1, r1⟩ := trodAll_cons r0
  obtain ⟨v2, vs2, d2, ds2, p2, q2, hargs2, rfl, hp2, h2, r2⟩ := trodAll_cons r1
  obtain ⟨v3, vs3, d3, ds3, p3, q3, hargs3, rfl, hp3, h3, r3⟩ := trodAll_cons r2
  obtain ⟨v4, vs4, d4, ds4, p4, q4, hargs4, rfl, hp4, h4, r4⟩ := trodAll_cons r3
  obtain ⟨v5, vs5, d5, ds5, p5, q5, hargs5, rfl, hp5, h5, r5⟩ := trodAll_cons r4
  obtain ⟨e1, e2, e3⟩ := trodAll_nil r5
  obtain rfl : args = #[v0, v1, v2, v3, v4, v5] := by cases args; simp_all
  obtain ⟨rfl, rfl⟩ := trodVars_none hV
  subst e2
  obtain ⟨cs0, rfl, hc0⟩ := agg_cells (ts := [21, 21, 21]) (hval 0 25 v0 rfl rfl) Try.underlying25 rfl (by kernel_rfl) (by kernel_rfl)
  obtain ⟨c0_0, cs0_0, rfl, e0_0, hc0_0⟩ := All2.uncons hc0
  obtain ⟨x0_0, rfl, bx0_0⟩ := cell_int (e0_0) Try.underlying21
  replace bx0_0 := has_i32 bx0_0
  obtain ⟨c0_1, cs0_1, rfl, e0_1, hc0_1⟩ := All2.uncons hc0_0
  obtain ⟨x0_1, rfl, bx0_1⟩ := cell_int (e0_1) Try.underlying21
  replace bx0_1 := has_i32 bx0_1
  obtain ⟨c0_2, cs0_2, rfl, e0_2, hc0_2⟩ := All2.uncons hc0_1
  obtain ⟨x0_2, rfl, bx0_2⟩ := cell_int (e0_2) Try.underlying21
  replace bx0_2 := has_i32 bx0_2
  obtain rfl := All2.unnil hc0_2
  obtain ⟨cs1, rfl, hc1⟩ := agg_cells (ts := [21, 21, 21]) (hval 1 25 v1 rfl rfl) Try.underlying25 rfl (by kernel_rfl) (by kernel_rfl)
  obtain ⟨c1_0, cs1_0, rfl, e1_0, hc1_0⟩ := All2.uncons hc1
  obtain ⟨x1_0, rfl, bx1_0⟩ := cell_int (e1_0) Try.underlying21
  replace bx1_0 := has_i32 bx1_0
  obtain ⟨c1_1, cs1_1, rfl, e1_1, hc1_1⟩ := All2.uncons hc1_0
  obtain ⟨x1_1, rfl, bx1_1⟩ := cell_int (e1_1) Try.underlying21
  replace bx1_1 := has_i32 bx1_1
  obtain ⟨c1_2, cs1_2, rfl, e1_2, hc1_2⟩ := All2.uncons hc1_1
  obtain ⟨x1_2, rfl, bx1_2⟩ := cell_int (e1_2) Try.underlying21
  replace bx1_2 := has_i32 bx1_2
  obtain rfl := All2.unnil hc1_2
  obtain ⟨cs2, rfl, hc2⟩ := agg_cells (ts := [21, 21, 21]) (hval 2 25 v2 rfl rfl) Try.underlying25 rfl (by kernel_rfl) (by kernel_rfl)
  obtain ⟨c2_0, cs2_0, rfl, e2_0, hc2_0⟩ := All2.uncons hc2
  obtain ⟨x2_0, rfl, bx2_0⟩ := cell_int (e2_0) Try.underlying21
  replace bx2_0 := has_i32 bx2_0
  obtain ⟨c2_1, cs2_1, rfl, e2_1, hc2_1⟩ := All2.uncons hc2_0
  obtain ⟨x2_1, rfl, bx2_1⟩ := cell_int (e2_1) Try.underlying21
  replace bx2_1 := has_i32 bx2_1
  obtain ⟨c2_2, cs2_2, rfl, e2_2, hc2_2⟩ := All2.uncons hc2_1
  obtain ⟨x2_2, rfl, bx2_2⟩ := cell_int (e2_2) Try.underlying21
  replace bx2_2 := has_i32 bx2_2
  obtain rfl := All2.unnil hc2_2
  obtain ⟨cs3, rfl, hc3⟩ := agg_cells (ts := [21, 21, 21]) (hval 3 25 v3 rfl rfl) Try.underlying25 rfl (by kernel_rfl) (by kernel_rfl)
  obtain ⟨c3_0, cs3_0, rfl, e3_0, hc3_0⟩ := All2.uncons hc3
  obtain ⟨x3_0, rfl, bx3_0⟩ := cell_int (e3_0) Try.underlying21
  replace bx3_0 := has_i32 bx3_0
  obtain ⟨c3_1, cs3_1, rfl, e3_1, hc3_1⟩ := All2.uncons hc3_0
  obtain ⟨x3_1, rfl, bx3_1⟩ := cell_int (e3_1) Try.underlying21
  replace bx3_1 := has_i32 bx3_1
  obtain ⟨c3_2, cs3_2, rfl, e3_2, hc3_2⟩ := All2.uncons hc3_1
  obtain ⟨x3_2, rfl, bx3_2⟩ := cell_int (e3_2) Try.underlying21
  replace bx3_2 := has_i32 bx3_2
  obtain rfl := All2.unnil hc3_2
  obtain ⟨x4, rfl, bx4⟩ := cell_int (val_cell (hval 4 3 v4 rfl rfl) Try.underlying3 rfl) Try.underlying3
  replace bx4 := has_i64 bx4
  obtain ⟨x5, rfl, bx5⟩ := cell_int (val_cell (hval 5 3 v5 rfl rfl) Try.underlying3 rfl) Try.underlying3
  replace bx5 := has_i64 bx5
  refine (Ret.law (law_CoverShared x0_0 x0_1 x0_2 x1_0 x1_1 x1_2 x2_0 x2_1 x2_2 x3_0 x3_1 x3_2 x4 x5 W)).mono fun e W' ⟨he, bel⟩ => ?_
  subst he
  exact ⟨_, rfl, _, _, _, [], _, [], hW', trodAll_mk1 (shut_bool Try.underlying4 _), trodAll_below CoverShared_out bel _ _ _ _ (by kernel_rfl) hA hlt, rfl, bel.frame _, fun h => by cases h⟩

theorem holds_CoverShared : Rows.CoverSharedSaid :=
  OpenClaim.holds_of_wide 17 Try.f17 rfl rfl rfl rfl rfl rfl rfl ⟨rfl, rfl, rfl, rfl, rfl⟩ rfl rfl rfl rfl rfl (by kernel_rfl) Try.func17 (by kernel_rfl)
    (of_decide_eq_true (by kernel_rfl)) (by unfold Func.isWrapper; first | (rw [if_pos (by decide +kernel)]; kernel_rfl) | (rw [if_neg (by decide +kernel)]; exact ⟨rfl, rfl⟩))
    (fun os started H enc _ => CoverShared_lifted os started H enc)
#print axioms holds_CoverShared
end Go.Proofs.Ytnbapjkldjhjoaa
