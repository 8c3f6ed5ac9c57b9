/-
  The law WholeSquare holds of every input: called with whatever arguments, it returns true, and every argument reads behind the call as it read before.
  No condition.
-/
import Derived.Test.YtnbapjkldjhjoaaRows
import Derived.Test.YtnbapjkldjhjoaaSkG
import Derived.Test.YtnbapjkldjhjoaaSkCoverZ
set_option linter.unusedVariables false
set_option linter.unusedSimpArgs false
namespace Go.Proofs.Ytnbapjkldjhjoaa
open Go.ChangeShapes Go.WideShapes Go.ChangeAt Go.RowKit Go.SK

theorem WholeSquare_own : ownKnob Try.prog.godebug = none := by kernel_rfl
theorem WholeSquare_out : laidOutB Try.prog = true := by kernel_rfl
set_option maxRecDepth 100000 in
theorem WholeSquare_lifted (os : Os) (started : os.Started) (H : Type) (enc : TypeId × Value → H) :
    ReturnsInHanded {} Try.checked os 18 .any (Rows.wholeSquareSpec.pre6 enc Try.prog Try.f18 Rows.wholeSquareRow.domain false) (Rows.wholeSquareSpec.post enc Try.prog Try.f18 false true false false) := by
  refine returnsInHanded_of_change (C := Try.checked) WholeSquare_own started (by kernel_rfl) Try.func18
    (ChangeSpec.witness6 (enc := enc) (C := Try.checked) false ⟨#[], #[.agg #[.int .i32 0, .int .i32 0, .int .i32 0, .int .i32 0, .bool false, .bool false, .bool false], .int .i64 0, .int .i64 0], []⟩ 8 (by kernel_rfl) (by kernel_rfl) (by kernel_rfl) (by kernel_rfl)) ?_
  intro W base args ds gs before hval0 hW hcnd _
  have hval : ∀ (j : Nat) t v, Try.f18.params[j]? = some t → args[j]? = some v → Value.okWide Try.prog W .any base t v := hval0
  have hW' := hW
  obtain ⟨p, q, hA0, hV, rfl, hfz, hnd⟩ := hW
  have hA : DataW.TrodAll enc Try.prog W 0 (fun _ => true) true Try.f18.params.toList args.toList ds p := hA0
  rw [Try.params18] at hA hval
  have hlt := trodAll_lt _ _ _ _ hA
  obtain ⟨v0, vs0, d0, ds0, p0, q0, hargs, rfl, hp0, h0, r0⟩ := trodAll_cons hA
  obtain ⟨v1, vs1, d1, ds1, p1, q1, hargs1, rfl, hp1, h1, r1⟩ := trodAll_cons r0
  obtain ⟨v2, vs2, d2, ds2, p2, q2, hargs2, rfl, hp2, h2, r2⟩ := trodAll_cons r1
  obtain ⟨e1, e2, e3⟩ := trodAll_nil r2
  obtain rfl : args = #[v0, v1, v2] := by cases args; simp_all
  obtain ⟨rfl, rfl⟩ := trodVars_none hV
  subst e2
  obtain ⟨cs0, rfl, hc0⟩ := agg_cells (ts := [21, 21, 21, 21, 4, 4, 4]) (hval 0 67 v0 rfl rfl) Try.underlying67 rfl (by kernel_rfl) (by kernel_rfl)
  obtain ⟨c0_0, cs0_0, rfl, e0_0, hc0_0⟩ := All2.uncons hc0
  obtain ⟨x0_0, rfl, bx0_0⟩ := cell_int (e0_0) Try.underlying21
  replace bx0_0 := has_i32 bx0_0
  obtain ⟨c0_1, cs0_1, rfl, e0_1, hc0_1⟩ := All2.uncons hc0_0
  obtain ⟨x0_1, rfl, bx0_1⟩ := cell_int (e0_1) Try.underlying21
  replace bx0_1 := has_i32 bx0_1
  obtain ⟨c0_2, cs0_2, rfl, e0_2, hc0_2⟩ := All2.uncons hc0_1
  obtain ⟨x0_2, rfl, bx0_2⟩ := cell_int (e0_2) Try.underlying21
  replace bx0_2 := has_i32 bx0_2
  obtain ⟨c0_3, cs0_3, rfl, e0_3, hc0_3⟩ := All2.uncons hc0_2
  obtain ⟨x0_3, rfl, bx0_3⟩ := cell_int (e0_3) Try.underlying21
  replace bx0_3 := has_i32 bx0_3
  obtain ⟨c0_4, cs0_4, rfl, e0_4, hc0_4⟩ := All2.uncons hc0_3
  obtain ⟨x0_4, rfl⟩ := cell_bool (e0_4) Try.underlying4
  obtain ⟨c0_5, cs0_5, rfl, e0_5, hc0_5⟩ := All2.uncons hc0_4
  obtain ⟨x0_5, rfl⟩ := cell_bool (e0_5) Try.underlying4
  obtain ⟨c0_6, cs0_6, rfl, e0_6, hc0_6⟩ := All2.uncons hc0_5
  obtain ⟨x0_6, rfl⟩ := cell_bool (e0_6) Try.underlying4
  obtain rfl := All2.unnil hc0_6
  obtain ⟨x1, rfl, bx1⟩ := cell_int (val_cell (hval 1 3 v1 rfl rfl) Try.underlying3 rfl) Try.underlying3
  replace bx1 := has_i64 bx1
  obtain ⟨x2, rfl, bx2⟩ := cell_int (val_cell (hval 2 3 v2 rfl rfl) Try.underlying3 rfl) Try.underlying3
  replace bx2 := has_i64 bx2
  refine (Ret.law (law_WholeSquare x0_0 x0_1 x0_2 x0_3 x0_4 x0_5 x0_6 x1 x2 W)).mono fun e W' ⟨he, bel⟩ => ?_
  subst he
  exact ⟨_, rfl, _, _, _, [], _, [], hW', trodAll_mk1 (shut_bool Try.underlying4 _), trodAll_below WholeSquare_out bel _ _ _ _ (by kernel_rfl) hA hlt, rfl, bel.frame _, fun h => by cases h⟩

theorem holds_WholeSquare : Rows.WholeSquareSaid :=
  OpenClaim.holds_of_wide 18 Try.f18 rfl rfl rfl rfl rfl rfl rfl ⟨rfl, rfl, rfl, rfl, rfl⟩ rfl rfl rfl rfl rfl (by kernel_rfl) Try.func18 (by kernel_rfl)
    (of_decide_eq_true (by kernel_rfl)) (by unfold Func.isWrapper; first | (rw [if_pos (by decide +kernel)]; kernel_rfl) | (rw [if_neg (by decide +kernel)]; exact ⟨rfl, rfl⟩))
    (fun os started H enc _ => WholeSquare_lifted os started H enc)
#print axioms holds_WholeSquare
end Go.Proofs.Ytnbapjkldjhjoaa
