/-
  The law GrammarEnums holds of every input: called with whatever arguments, it returns true, and every argument reads behind the call as it read before.
  No condition.
-/
import Derived.Test.YtheckaonphmmiaaRows
import Derived.Test.YtheckaonphmmiaaSkG
import Derived.Test.YtheckaonphmmiaaSkR2GrD
set_option linter.unusedVariables false
set_option linter.unusedSimpArgs false
namespace Go.Proofs.Ytheckaonphmmiaa
open Go.ChangeShapes Go.WideShapes Go.ChangeAt Go.RowKit Go.SK

theorem GrammarEnums_own : ownKnob Try.prog.godebug = none := by kernel_rfl
theorem GrammarEnums_out : laidOutB Try.prog = true := by kernel_rfl
set_option maxRecDepth 100000 in
theorem GrammarEnums_lifted (os : Os) (started : os.Started) (H : Type) (enc : TypeId × Value → H) :
    ReturnsInHanded {} Try.checked os 4 .any (Rows.grammarEnumsSpec.pre6 enc Try.prog Try.f4 Rows.grammarEnumsRow.domain false) (Rows.grammarEnumsSpec.post enc Try.prog Try.f4 false true false false) := by
  refine returnsInHanded_of_change (C := Try.checked) GrammarEnums_own started (by kernel_rfl) Try.func4
    (ChangeSpec.witness6 (enc := enc) (C := Try.checked) false ⟨#[], #[.int .u8 0, .int .u32 0, .string ⟨#[]⟩], []⟩ 8 (by kernel_rfl) (by kernel_rfl) (by kernel_rfl) (by kernel_rfl)) ?_
  intro W base args ds gs before hval0 hW hcnd _
  have hval : ∀ (j : Nat) t v, Try.f4.params[j]? = some t → args[j]? = some v → Value.okWide Try.prog W .any base t v := hval0
  have hW' := hW
  obtain ⟨p, q, hA0, hV, rfl, hfz, hnd⟩ := hW
  have hA : DataW.TrodAll enc Try.prog W 0 (fun _ => true) true Try.f4.params.toList args.toList ds p := hA0
  rw [Try.params4] at hA hval
  have hlt := trodAll_lt _ _ _ _ hA
  obtain ⟨v0, vs0, d0, ds0, p0, q0, hargs, rfl, hp0, h0, r0⟩ := trodAll_cons hA
  obtain ⟨v1, vs1, d1, ds1, p1, q1, hargs1, rfl, hp1, h1, r1⟩ := trodAll_cons r0
  obtain ⟨v2, vs2, d2, ds2, p2, q2, hargs2, rfl, hp2, h2, r2⟩ := trodAll_cons r1
  obtain ⟨e1, e2, e3⟩ := trodAll_nil r2
  obtain rfl : args = #[v0, v1, v2] := by cases args; simp_all
  obtain ⟨rfl, rfl⟩ := trodVars_none hV
  subst e2
  obtain ⟨x0, rfl, bx0⟩ := cell_int (val_cell (hval 0 5 v0 rfl rfl) Try.underlying5 rfl) Try.underlying5
  replace bx0 := has_u8 bx0
  obtain ⟨x1, rfl, bx1⟩ := cell_int (val_cell (hval 1 24 v1 rfl rfl) Try.underlying24 rfl) Try.underlying24
  replace bx1 := has_u32 bx1
  obtain ⟨x2, rfl, bx2⟩ := cell_str (val_cell (hval 2 9 v2 rfl rfl) Try.underlying9 rfl) Try.underlying9
  refine (Ret.law (R2law_GrammarEnums x0 x1 x2 bx0.1 bx0.2 W)).mono fun e W' ⟨he, bel⟩ => ?_
  subst he
  exact ⟨_, rfl, _, _, _, [], _, [], hW', trodAll_mk1 (shut_bool Try.underlying4 _), trodAll_below GrammarEnums_out bel _ _ _ _ (by kernel_rfl) hA hlt, rfl, bel.frame _, fun h => by cases h⟩

theorem holds_GrammarEnums : Rows.GrammarEnumsSaid :=
  OpenClaim.holds_of_wide 4 Try.f4 rfl rfl rfl rfl rfl rfl rfl ⟨rfl, rfl, rfl, rfl, rfl⟩ rfl rfl rfl rfl rfl (by kernel_rfl) Try.func4 (by kernel_rfl)
    (of_decide_eq_true (by kernel_rfl)) (by unfold Func.isWrapper; first | (rw [if_pos (by decide +kernel)]; kernel_rfl) | (rw [if_neg (by decide +kernel)]; exact ⟨rfl, rfl⟩))
    (fun os started H enc _ => GrammarEnums_lifted os started H enc)
#print axioms holds_GrammarEnums
end Go.Proofs.Ytheckaonphmmiaa
