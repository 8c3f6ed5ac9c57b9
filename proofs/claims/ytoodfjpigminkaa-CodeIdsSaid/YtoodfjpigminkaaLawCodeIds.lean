/-
  The law CodeIds holds of every input: called with whatever arguments, it returns true, and every argument reads behind the call as it read before.
  No condition.
-/
import Derived.Test.YtoodfjpigminkaaRows
import Derived.Test.YtoodfjpigminkaaSkG0d




set_option linter.unusedVariables false
set_option linter.unusedSimpArgs false
namespace Go.Proofs.Ytoodfjpigminkaa
open Go.ChangeShapes Go.WideShapes Go.ChangeAt Go.RowKit Go.SK

def codeIds_ty : MdTys Try.prog 26 48 71 := ⟨_, _, _, _, _, _, _, _, _, _, Try.underlying26, Try.underlying48, Try.underlying71, ⟨rfl, by kernel_rfl, Try.underlying23⟩, ⟨rfl, by kernel_rfl, Try.underlying23⟩, ⟨rfl, by kernel_rfl, Try.underlying24⟩, ⟨rfl, by kernel_rfl, Try.underlying42⟩, ⟨rfl, by kernel_rfl, Try.underlying23⟩, ⟨rfl, by kernel_rfl, Try.underlying23⟩, ⟨rfl, by kernel_rfl, Try.underlying46⟩, ⟨rfl, by kernel_rfl, Try.underlying5⟩, ⟨rfl, by kernel_rfl, Try.underlying23⟩, ⟨rfl, by kernel_rfl, Try.underlying9⟩, by kernel_rfl, by kernel_rfl, by kernel_rfl, by kernel_rfl, by kernel_rfl⟩
def codeIds_rw : RawTys Try.prog 45 43 23 := ⟨_, _, Try.underlying45, Try.underlying23, ⟨rfl, by kernel_rfl, Try.underlying42⟩, ⟨rfl, by kernel_rfl, Try.underlying43⟩, by kernel_rfl, by kernel_rfl, by kernel_rfl⟩
theorem CodeIds_own : ownKnob Try.prog.godebug = none := by kernel_rfl
theorem CodeIds_out : laidOutB Try.prog = true := by kernel_rfl
set_option maxRecDepth 100000 in
theorem CodeIds_lifted (os : Os) (started : os.Started) (H : Type) (enc : TypeId × Value → H) :
    ReturnsInHanded {} Try.checked os 11 .any (Rows.codeIdsSpec.pre6 enc Try.prog Try.f11 Rows.codeIdsRow.domain false) (Rows.codeIdsSpec.post enc Try.prog Try.f11 false true false false) := by
  refine returnsInHanded_of_change_sized (C := Try.checked) CodeIds_own started (by kernel_rfl) Try.func11
    (ChangeSpec.witness6 (enc := enc) (C := Try.checked) false ⟨#[], #[.agg #[.int .u16 0, .int .u32 0, .int .u32 0, .slice none 0 0]], []⟩ 8 (by kernel_rfl) (by kernel_rfl) (by kernel_rfl) (by kernel_rfl)) ?_
  intro W base args ds gs before hval0 hW hcnd hsz _
  have hval : ∀ (j : Nat) t v, Try.f11.params[j]? = some t → args[j]? = some v → Value.okWide Try.prog W .any base t v := hval0
  have hW' := hW
  obtain ⟨p, q, hA0, hV, rfl, hfz, hnd⟩ := hW
  have hA : DataW.TrodAll enc Try.prog W 0 (fun _ => true) true Try.f11.params.toList args.toList ds p := hA0
  rw [Try.params11] at hA hval
  have hlt := trodAll_lt _ _ _ _ hA
  obtain ⟨v0, vs0, d0, ds0, p0, q0, hargs, rfl, hp0, h0, r0⟩ := trodAll_cons hA
  obtain ⟨e1, e2, e3⟩ := trodAll_nil r0
  obtain rfl : args = #[v0] := by cases args; simp_all
  obtain ⟨rfl, rfl⟩ := trodVars_none hV
  subst e2
  obtain ⟨io0, it0, ir0, ao0, cp0, x0, rfl, ig0, dr0⟩ := open_inst codeIds_ty h0 (by obtain ⟨cs, rfl, _⟩ := agg_cells (ts := [42, 23, 23, 46]) (hval 0 48 v0 rfl rfl) Try.underlying48 rfl (by kernel_rfl) (by kernel_rfl); exact ⟨cs, rfl⟩)
  have hl0 := inst_sized codeIds_ty hsz (j := 0) rfl rfl dr0
  refine (Ret.law (R3law_CodeIds (⟨io0, it0, ir0, ao0, cp0, x0⟩ : InstP) W ig0.2.2.2.2 hl0)).mono fun e W' ⟨he, bel⟩ => ?_
  subst he
  exact ⟨_, rfl, _, _, _, [], _, [], hW', trodAll_mk1 (shut_bool Try.underlying4 _), trodAll_below CodeIds_out bel _ _ _ _ (by kernel_rfl) hA hlt, rfl, bel.frame _, fun h => by cases h⟩

theorem holds_CodeIds : Rows.CodeIdsSaid :=
  OpenClaim.holds_of_wide 11 Try.f11 rfl rfl rfl rfl rfl rfl rfl ⟨rfl, rfl, rfl, rfl, rfl⟩ rfl rfl rfl rfl rfl (by kernel_rfl) Try.func11 (by kernel_rfl)
    (of_decide_eq_true (by kernel_rfl)) (by unfold Func.isWrapper; first | (rw [if_pos (by decide +kernel)]; kernel_rfl) | (rw [if_neg (by decide +kernel)]; exact ⟨rfl, rfl⟩))
    (fun os started H enc _ => CodeIds_lifted os started H enc)
#print axioms holds_CodeIds
end Go.Proofs.Ytoodfjpigminkaa
