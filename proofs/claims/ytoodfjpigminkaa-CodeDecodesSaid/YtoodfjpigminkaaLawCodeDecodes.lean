/-
  The law CodeDecodes holds of every input: called with whatever arguments, it returns true, and every argument reads behind the call as it read before.
  No condition.
-/
import Derived.Test.YtoodfjpigminkaaRows
import Derived.Test.YtoodfjpigminkaaSkG0d
import Derived.Test.YtoodfjpigminkaaSkG1a
import Derived.Test.YtoodfjpigminkaaSkG2a
import Derived.Test.YtoodfjpigminkaaSkG5a
import Derived.Test.YtoodfjpigminkaaSkG6a
import Derived.Test.YtoodfjpigminkaaSkG8a
import Derived.Test.YtoodfjpigminkaaSkG9a
import Derived.Test.YtoodfjpigminkaaSkG10a
import Derived.Test.YtoodfjpigminkaaSkG13a
import Derived.Test.YtoodfjpigminkaaSkG14a
import Derived.Test.YtoodfjpigminkaaSkG16a
import Derived.Test.YtoodfjpigminkaaSkG17a
import Derived.Test.YtoodfjpigminkaaSkG18a
import Derived.Test.YtoodfjpigminkaaSkG21a
import Derived.Test.YtoodfjpigminkaaSkG22a
import Derived.Test.YtoodfjpigminkaaSkG29a
import Derived.Test.YtoodfjpigminkaaSkG30a
import Derived.Test.YtoodfjpigminkaaSkG38a
set_option linter.unusedVariables false
set_option linter.unusedSimpArgs false
namespace Go.Proofs.Ytoodfjpigminkaa
open Go.ChangeShapes Go.WideShapes Go.ChangeAt Go.RowKit Go.SK

def codeDecodes_ty : MdTys Try.prog 26 48 71 := ⟨_, _, _, _, _, _, _, _, _, _, Try.underlying26, Try.underlying48, Try.underlying71, ⟨rfl, by kernel_rfl, Try.underlying23⟩, ⟨rfl, by kernel_rfl, Try.underlying23⟩, ⟨rfl, by kernel_rfl, Try.underlying24⟩, ⟨rfl, by kernel_rfl, Try.underlying42⟩, ⟨rfl, by kernel_rfl, Try.underlying23⟩, ⟨rfl, by kernel_rfl, Try.underlying23⟩, ⟨rfl, by kernel_rfl, Try.underlying46⟩, ⟨rfl, by kernel_rfl, Try.underlying5⟩, ⟨rfl, by kernel_rfl, Try.underlying23⟩, ⟨rfl, by kernel_rfl, Try.underlying9⟩, by kernel_rfl, by kernel_rfl, by kernel_rfl, by kernel_rfl, by kernel_rfl⟩
def codeDecodes_rw : RawTys Try.prog 45 43 23 := ⟨_, _, Try.underlying45, Try.underlying23, ⟨rfl, by kernel_rfl, Try.underlying42⟩, ⟨rfl, by kernel_rfl, Try.underlying43⟩, by kernel_rfl, by kernel_rfl, by kernel_rfl⟩
theorem CodeDecodes_own : ownKnob Try.prog.godebug = none := by kernel_rfl
theorem CodeDecodes_out : laidOutB Try.prog = true := by kernel_rfl
set_option maxRecDepth 100000 in
theorem CodeDecodes_lifted (os : Os) (started : os.Started) (H : Type) (enc : TypeId × Value → H) :
    ReturnsInHanded {} Try.checked os 3 .any (Rows.codeDecodesSpec.pre6 enc Try.prog Try.f3 Rows.codeDecodesRow.domain false) (Rows.codeDecodesSpec.post enc Try.prog Try.f3 false true false false) := by
  refine returnsInHanded_of_change_sized (C := Try.checked) CodeDecodes_own started (by kernel_rfl) Try.func3
    (ChangeSpec.witness6 (enc := enc) (C := Try.checked) false ⟨#[], #[.slice none 0 0], []⟩ 8 (by kernel_rfl) (by kernel_rfl) (by kernel_rfl) (by kernel_rfl)) ?_
  intro W base args ds gs before hval0 hW hcnd hsz _
  have hval : ∀ (j : Nat) t v, Try.f3.params[j]? = some t → args[j]? = some v → Value.okWide Try.prog W .any base t v := hval0
  have hW' := hW
  obtain ⟨p, q, hA0, hV, rfl, hfz, hnd⟩ := hW
  have hA : DataW.TrodAll enc Try.prog W 0 (fun _ => true) true Try.f3.params.toList args.toList ds p := hA0
  rw [Try.params3] at hA hval
  have hlt := trodAll_lt _ _ _ _ hA
  obtain ⟨v0, vs0, d0, ds0, p0, q0, hargs, rfl, hp0, h0, r0⟩ := trodAll_cons hA
  obtain ⟨e1, e2, e3⟩ := trodAll_nil r0
  obtain rfl : args = #[v0] := by cases args; simp_all
  obtain ⟨rfl, rfl⟩ := trodVars_none hV
  subst e2
  have hs0 := slice_cells (hval 0 22 v0 rfl rfl) Try.underlying22
  obtain ⟨ao0, cp0, x0, rfl, bm0, bg0, hR0, dr0⟩ := open_flat (g := byC) (good := fun _ => True) (rel := fun _ _ => True) (es := 1) Try.underlying22 (by kernel_rfl) (by decide) byC_len (open_by Try.underlying5) h0 hs0
  have hc0 := open_cap Try.underlying22 h0
  have hl0 := len_sized (b := 1) (n := x0.length) (z := True) hsz (j := 0) rfl rfl Try.underlying22 (by kernel_rfl) (dr0.imp (fun h => by rw [h.2]; rfl) id)
  refine (Ret.law (R3law_CodeDecodes x0 ao0 cp0 W hR0 (by omega))).mono fun e W' ⟨he, bel⟩ => ?_
  subst he
  exact ⟨_, rfl, _, _, _, [], _, [], hW', trodAll_mk1 (shut_bool Try.underlying4 _), trodAll_below CodeDecodes_out bel _ _ _ _ (by kernel_rfl) hA hlt, rfl, bel.frame _, fun h => by cases h⟩

theorem holds_CodeDecodes : Rows.CodeDecodesSaid :=
  OpenClaim.holds_of_wide 3 Try.f3 rfl rfl rfl rfl rfl rfl rfl ⟨rfl, rfl, rfl, rfl, rfl⟩ rfl rfl rfl rfl rfl (by kernel_rfl) Try.func3 (by kernel_rfl)
    (of_decide_eq_true (by kernel_rfl)) (by unfold Func.isWrapper; first | (rw [if_pos (by decide +kernel)]; kernel_rfl) | (rw [if_neg (by decide +kernel)]; exact ⟨rfl, rfl⟩))
    (fun os started H enc _ => CodeDecodes_lifted os started H enc)
#print axioms holds_CodeDecodes
end Go.Proofs.Ytoodfjpigminkaa
