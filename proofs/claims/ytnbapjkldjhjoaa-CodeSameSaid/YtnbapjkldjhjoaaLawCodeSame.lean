/-
  The law CodeSame holds of every input: called with whatever arguments, it returns true, and every argument reads behind the call as it read before.
  No condition.
-/
import Derived.Test.YtnbapjkldjhjoaaRows
import Derived.Test.YtnbapjkldjhjoaaSkG
import Derived.Test.YtnbapjkldjhjoaaSkR
import Derived.Test.YtnbapjkldjhjoaaSkR1MdL
set_option linter.unusedVariables false
set_option linter.unusedSimpArgs false
namespace Go.Proofs.Ytnbapjkldjhjoaa
open Go.ChangeShapes Go.WideShapes Go.ChangeAt Go.RowKit Go.SK

def codeSame_ty : MdTys Try.prog 37 84 89 := ⟨_, _, _, _, _, _, _, _, _, _, Try.underlying37, Try.underlying84, Try.underlying89, ⟨rfl, by kernel_rfl, Try.underlying34⟩, ⟨rfl, by kernel_rfl, Try.underlying34⟩, ⟨rfl, by kernel_rfl, Try.underlying35⟩, ⟨rfl, by kernel_rfl, Try.underlying22⟩, ⟨rfl, by kernel_rfl, Try.underlying34⟩, ⟨rfl, by kernel_rfl, Try.underlying34⟩, ⟨rfl, by kernel_rfl, Try.underlying82⟩, ⟨rfl, by kernel_rfl, Try.underlying5⟩, ⟨rfl, by kernel_rfl, Try.underlying34⟩, ⟨rfl, by kernel_rfl, Try.underlying9⟩, by kernel_rfl, by kernel_rfl, by kernel_rfl, by kernel_rfl, by kernel_rfl⟩
theorem CodeSame_own : ownKnob Try.prog.godebug = none := by kernel_rfl
theorem CodeSame_out : laidOutB Try.prog = true := by kernel_rfl
set_option maxRecDepth 100000 in
theorem CodeSame_lifted (os : Os) (started : os.Started) (H : Type) (enc : TypeId × Value → H) :
    ReturnsInHanded {} Try.checked os 7 .any (Rows.codeSameSpec.pre6 enc Try.prog Try.f7 Rows.codeSameRow.domain false) (Rows.codeSameSpec.post enc Try.prog Try.f7 false true false false) := by
  refine returnsInHanded_of_change_sized (C := Try.checked) CodeSame_own started (by kernel_rfl) Try.func7
    (ChangeSpec.witness6 (enc := enc) (C := Try.checked) false ⟨#[], #[.agg #[.int .u32 0, .int .u32 0, .slice none 0 0], .agg #[.int .u32 0, .int .u32 0, .slice none 0 0]], []⟩ 8 (by kernel_rfl) (by kernel_rfl) (by kernel_rfl) (by kernel_rfl)) ?_
  intro W base args ds gs before hval0 hW hcnd hsz _
  have hval : ∀ (j : Nat) t v, Try.f7.params[j]? = some t → args[j]? = some v → Value.okWide Try.prog W .any base t v := hval0
  have hW' := hW
  obtain ⟨p, q, hA0, hV, rfl, hfz, hnd⟩ := hW
  have hA : DataW.TrodAll enc Try.prog W 0 (fun _ => true) true Try.f7.params.toList args.toList ds p := hA0
  rw [Try.params7] at hA hval
  have hlt := trodAll_lt _ _ _ _ hA
  obtain ⟨v0, vs0, d0, ds0, p0, q0, hargs, rfl, hp0, h0, r0⟩ := trodAll_cons hA
  obtain ⟨v1, vs1, d1, ds1, p1, q1, hargs1, rfl, hp1, h1, r1⟩ := trodAll_cons r0
  obtain ⟨e1, e2, e3⟩ := trodAll_nil r1
  obtain rfl : args = #[v0, v1] := by cases args; simp_all
  obtain ⟨rfl, rfl⟩ := trodVars_none hV
  subst e2
  obtain ⟨ga0, ba0, ao0, cp0, x0, rfl, bg0, bb0, gd0, hR0, dr0⟩ := open_mod codeSame_ty h0 (by obtain ⟨cs, rfl, _⟩ := agg_cells (ts := [34, 34, 35]) (hval 0 37 v0 rfl rfl) Try.underlying37 rfl (by kernel_rfl) (by kernel_rfl); exact ⟨cs, rfl⟩)
  obtain ⟨hl0, hla0⟩ := mod_sized codeSame_ty hsz (j := 0) rfl rfl dr0
  obtain ⟨ga1, ba1, ao1, cp1, x1, rfl, bg1, bb1, gd1, hR1, dr1⟩ := open_mod codeSame_ty h1 (by obtain ⟨cs, rfl, _⟩ := agg_cells (ts := [34, 34, 35]) (hval 1 37 v1 rfl rfl) Try.underlying37 rfl (by kernel_rfl) (by kernel_rfl); exact ⟨cs, rfl⟩)
  obtain ⟨hl1, hla1⟩ := mod_sized codeSame_ty hsz (j := 1) rfl rfl dr1
  refine (Ret.law (R1law_CodeSame ga0 ba0 x0 ao0 cp0 ga1 ba1 x1 ao1 cp1 W hR0 hR1 hl0 hla0 hl1 hla1)).mono fun e W' ⟨he, bel⟩ => ?_
  subst he
  exact ⟨_, rfl, _, _, _, [], _, [], hW', trodAll_mk1 (shut_bool Try.underlying4 _), trodAll_below CodeSame_out bel _ _ _ _ (by kernel_rfl) hA hlt, rfl, bel.frame _, fun h => by cases h⟩

theorem holds_CodeSame : Rows.CodeSameSaid :=
  OpenClaim.holds_of_wide 7 Try.f7 rfl rfl rfl rfl rfl rfl rfl ⟨rfl, rfl, rfl, rfl, rfl⟩ rfl rfl rfl rfl rfl (by kernel_rfl) Try.func7 (by kernel_rfl)
    (of_decide_eq_true (by kernel_rfl)) (by unfold Func.isWrapper; first | (rw [if_pos (by decide +kernel)]; kernel_rfl) | (rw [if_neg (by decide +kernel)]; exact ⟨rfl, rfl⟩))
    (fun os started H enc _ => CodeSame_lifted os started H enc)
#print axioms holds_CodeSame
end Go.Proofs.Ytnbapjkldjhjoaa
