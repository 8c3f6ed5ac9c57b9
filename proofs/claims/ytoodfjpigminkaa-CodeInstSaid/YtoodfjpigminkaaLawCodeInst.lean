/-
  The law CodeInst holds of every input: called with whatever arguments, it returns true, and every argument reads behind the call as it read before.
  No condition.
-/
import Derived.Test.YtoodfjpigminkaaRows
import Derived.Test.YtoodfjpigminkaaSkG0d
import Derived.Test.YtoodfjpigminkaaSkG2a
import Derived.Test.YtoodfjpigminkaaSkG4a
import Derived.Test.YtoodfjpigminkaaSkG5a
import Derived.Test.YtoodfjpigminkaaSkG6a
import Derived.Test.YtoodfjpigminkaaSkG9a
import Derived.Test.YtoodfjpigminkaaSkG10a
import Derived.Test.YtoodfjpigminkaaSkG12a
import Derived.Test.YtoodfjpigminkaaSkG14a
import Derived.Test.YtoodfjpigminkaaSkG18a
import Derived.Test.YtoodfjpigminkaaSkG20a
import Derived.Test.YtoodfjpigminkaaSkG21a
import Derived.Test.YtoodfjpigminkaaSkG25a
import Derived.Test.YtoodfjpigminkaaSkG26a
import Derived.Test.YtoodfjpigminkaaSkG28a
import Derived.Test.YtoodfjpigminkaaSkG30a
import Derived.Test.YtoodfjpigminkaaSkG35a
import Derived.Test.YtoodfjpigminkaaSkG42a
set_option linter.unusedVariables false
set_option linter.unusedSimpArgs false
namespace Go.Proofs.Ytoodfjpigminkaa
open Go.ChangeShapes Go.WideShapes Go.ChangeAt Go.RowKit Go.SK

def codeInst_ty : MdTys Try.prog 26 48 71 := ⟨_, _, _, _, _, _, _, _, _, _, Try.underlying26, Try.underlying48, Try.underlying71, ⟨rfl, by kernel_rfl, Try.underlying23⟩, ⟨rfl, by kernel_rfl, Try.underlying23⟩, ⟨rfl, by kernel_rfl, Try.underlying24⟩, ⟨rfl, by kernel_rfl, Try.underlying42⟩, ⟨rfl, by kernel_rfl, Try.underlying23⟩, ⟨rfl, by kernel_rfl, Try.underlying23⟩, ⟨rfl, by kernel_rfl, Try.underlying46⟩, ⟨rfl, by kernel_rfl, Try.underlying5⟩, ⟨rfl, by kernel_rfl, Try.underlying23⟩, ⟨rfl, by kernel_rfl, Try.underlying9⟩, by kernel_rfl, by kernel_rfl, by kernel_rfl, by kernel_rfl, by kernel_rfl⟩
def codeInst_rw : RawTys Try.prog 45 43 23 := ⟨_, _, Try.underlying45, Try.underlying23, ⟨rfl, by kernel_rfl, Try.underlying42⟩, ⟨rfl, by kernel_rfl, Try.underlying43⟩, by kernel_rfl, by kernel_rfl, by kernel_rfl⟩
theorem CodeInst_own : ownKnob Try.prog.godebug = none := by kernel_rfl
theorem CodeInst_out : laidOutB Try.prog = true := by kernel_rfl
set_option maxRecDepth 100000 in
theorem CodeInst_lifted (os : Os) (started : os.Started) (H : Type) (enc : TypeId × Value → H) :
    ReturnsInHanded {} Try.checked os 5 .any (Rows.codeInstSpec.pre6 enc Try.prog Try.f5 Rows.codeInstRow.domain false) (Rows.codeInstSpec.post enc Try.prog Try.f5 false true false false) := by
  refine returnsInHanded_of_change_sized (C := Try.checked) CodeInst_own started (by kernel_rfl) Try.func5
    (ChangeSpec.witness6 (enc := enc) (C := Try.checked) false ⟨#[], #[.agg #[.int .u16 0, .slice none 0 0], .int .u32 0], []⟩ 8 (by kernel_rfl) (by kernel_rfl) (by kernel_rfl) (by kernel_rfl)) ?_
  intro W base args ds gs before hval0 hW hcnd hsz _
  have hval : ∀ (j : Nat) t v, Try.f5.params[j]? = some t → args[j]? = some v → Value.okWide Try.prog W .any base t v := hval0
  have hW' := hW
  obtain ⟨p, q, hA0, hV, rfl, hfz, hnd⟩ := hW
  have hA : DataW.TrodAll enc Try.prog W 0 (fun _ => true) true Try.f5.params.toList args.toList ds p := hA0
  rw [Try.params5] at hA hval
  have hlt := trodAll_lt _ _ _ _ hA
  obtain ⟨v0, vs0, d0, ds0, p0, q0, hargs, rfl, hp0, h0, r0⟩ := trodAll_cons hA
  obtain ⟨v1, vs1, d1, ds1, p1, q1, hargs1, rfl, hp1, h1, r1⟩ := trodAll_cons r0
  obtain ⟨e1, e2, e3⟩ := trodAll_nil r1
  obtain rfl : args = #[v0, v1] := by cases args; simp_all
  obtain ⟨rfl, rfl⟩ := trodVars_none hV
  subst e2
  obtain ⟨op0, ao0, cp0, x0, rfl, bo0, wd0, hc0, hR0, dr0⟩ := open_raw codeInst_rw h0 (by obtain ⟨cs, rfl, _⟩ := agg_cells (ts := [42, 43]) (hval 0 45 v0 rfl rfl) Try.underlying45 rfl (by kernel_rfl) (by kernel_rfl); exact ⟨cs, rfl⟩)
  have hl0 := raw_sized codeInst_rw hsz (j := 0) rfl rfl dr0
  obtain ⟨x1, rfl, bx1⟩ := cell_int (val_cell (hval 1 23 v1 rfl rfl) Try.underlying23 rfl) Try.underlying23
  replace bx1 := has_u32 bx1
  refine (Ret.law (R3law_CodeInst op0 x0 ao0 cp0 x1 W wd0 hc0 bo0.1 hR0 hl0)).mono fun e W' ⟨he, bel⟩ => ?_
  subst he
  exact ⟨_, rfl, _, _, _, [], _, [], hW', trodAll_mk1 (shut_bool Try.underlying4 _), trodAll_below CodeInst_out bel _ _ _ _ (by kernel_rfl) hA hlt, rfl, bel.frame _, fun h => by cases h⟩

theorem holds_CodeInst : Rows.CodeInstSaid :=
  OpenClaim.holds_of_wide 5 Try.f5 rfl rfl rfl rfl rfl rfl rfl ⟨rfl, rfl, rfl, rfl, rfl⟩ rfl rfl rfl rfl rfl (by kernel_rfl) Try.func5 (by kernel_rfl)
    (of_decide_eq_true (by kernel_rfl)) (by unfold Func.isWrapper; first | (rw [if_pos (by decide +kernel)]; kernel_rfl) | (rw [if_neg (by decide +kernel)]; exact ⟨rfl, rfl⟩))
    (fun os started H enc _ => CodeInst_lifted os started H enc)
#print axioms holds_CodeInst
end Go.Proofs.Ytoodfjpigminkaa
