/-
  The law CodeForth holds of every input whose bulk is small (the bound of the Rows text): called with such arguments, it returns true, and every argument reads behind the call as it read before.
  The condition is the bound alone.
-/
import Derived.Test.YtoodfjpigminkaaRows
import Derived.Test.YtoodfjpigminkaaSkG0d
import Derived.Test.YtoodfjpigminkaaSkG1a
import Derived.Test.YtoodfjpigminkaaSkG2a
import Derived.Test.YtoodfjpigminkaaSkG3a
import Derived.Test.YtoodfjpigminkaaSkG4a
import Derived.Test.YtoodfjpigminkaaSkG5a
import Derived.Test.YtoodfjpigminkaaSkG6a
import Derived.Test.YtoodfjpigminkaaSkG7a
import Derived.Test.YtoodfjpigminkaaSkG8a
import Derived.Test.YtoodfjpigminkaaSkG10a
import Derived.Test.YtoodfjpigminkaaSkG11a
import Derived.Test.YtoodfjpigminkaaSkG15a
import Derived.Test.YtoodfjpigminkaaSkG16a
import Derived.Test.YtoodfjpigminkaaSkG19a
import Derived.Test.YtoodfjpigminkaaSkG23a
import Derived.Test.YtoodfjpigminkaaSkG24a
import Derived.Test.YtoodfjpigminkaaSkG31a
import Derived.Test.YtoodfjpigminkaaSkG34a
import Derived.Test.YtoodfjpigminkaaSkG40a
import Derived.JoinedCond
set_option linter.unusedVariables false
set_option linter.unusedSimpArgs false
namespace Go.Proofs.Ytoodfjpigminkaa
open Go.ChangeShapes Go.WideShapes Go.ChangeAt Go.RowKit Go.SK

theorem CodeForthUpto_one {H : Type} (d : DataW H) : 1 ≤ Rows.uptoBulk d := by
  cases d with
  | lit l => cases l <;> simp [Rows.uptoBulk]
  | nil => simp [Rows.uptoBulk]
  | ptr d => simp [Rows.uptoBulk]
  | slice elems spare => simp [Rows.uptoBulk]
  | agg parts => simp [Rows.uptoBulk]
  | iface t d => simp [Rows.uptoBulk]
  | map entries => simp [Rows.uptoBulk]
  | held h => simp [Rows.uptoBulk]
theorem CodeForthUpto_len {H : Type} (l : List (DataW H)) : l.length ≤ Rows.uptoBulkAll l := by
  induction l with
  | nil => simp [Rows.uptoBulkAll]
  | cons x r ih => have := CodeForthUpto_one x; simp only [Rows.uptoBulkAll, List.length_cons]; omega
theorem CodeForthUpto_sl {H : Type} (elems spare : List (DataW H)) : elems.length ≤ Rows.uptoBulk (.slice elems spare) ∧ Rows.uptoBulkAll elems ≤ Rows.uptoBulk (.slice elems spare) := by
  have h1 := CodeForthUpto_len elems
  simp only [Rows.uptoBulk]
  omega
theorem CodeForthUpto_str {H : Type} (bytes : List UInt8) : bytes.length ≤ Rows.uptoBulk (DataW.lit (H := H) (.string bytes)) := by
  simp only [Rows.uptoBulk]
  omega

def codeForth_ty : MdTys Try.prog 26 48 71 := ⟨_, _, _, _, _, _, _, _, _, _, Try.underlying26, Try.underlying48, Try.underlying71, ⟨rfl, by kernel_rfl, Try.underlying23⟩, ⟨rfl, by kernel_rfl, Try.underlying23⟩, ⟨rfl, by kernel_rfl, Try.underlying24⟩, ⟨rfl, by kernel_rfl, Try.underlying42⟩, ⟨rfl, by kernel_rfl, Try.underlying23⟩, ⟨rfl, by kernel_rfl, Try.underlying23⟩, ⟨rfl, by kernel_rfl, Try.underlying46⟩, ⟨rfl, by kernel_rfl, Try.underlying5⟩, ⟨rfl, by kernel_rfl, Try.underlying23⟩, ⟨rfl, by kernel_rfl, Try.underlying9⟩, by kernel_rfl, by kernel_rfl, by kernel_rfl, by kernel_rfl, by kernel_rfl⟩
def codeForth_rw : RawTys Try.prog 45 43 23 := ⟨_, _, Try.underlying45, Try.underlying23, ⟨rfl, by kernel_rfl, Try.underlying42⟩, ⟨rfl, by kernel_rfl, Try.underlying43⟩, by kernel_rfl, by kernel_rfl, by kernel_rfl⟩
theorem CodeForthUpto_bulk {H : Type} : BulkOk (H := H) Rows.uptoBulk Rows.uptoBulkAll := ⟨fun b => by simp only [Rows.uptoBulk]; omega, CodeForthUpto_one, fun l => by simp only [Rows.uptoBulk]; omega, fun l sp => by simp only [Rows.uptoBulk]; omega, fun d r => by simp only [Rows.uptoBulkAll]⟩
theorem CodeForthUpto_own : ownKnob Try.prog.godebug = none := by kernel_rfl
theorem CodeForthUpto_out : laidOutB Try.prog = true := by kernel_rfl
set_option maxRecDepth 100000 in
theorem CodeForthUpto_contract (H : Type) (enc : TypeId × Value → H) (W : World) (base : Nat) (args : Array Value) (ds gs : List (DataW H)) (before : List MemPlace)
    (hval0 : ∀ (j : Nat) t v, Try.f12.params[j]? = some t → args[j]? = some v → Value.okWide Try.prog W .any base t v)
    (hW : DataW.Whole enc Try.prog Try.f12.params.toList Rows.codeForthSpec.vars false W args.toList ds gs before) (hk : Rows.uptoSmall H (ds ++ gs) = true) :
    Calls Try.prog 12 args W fun e W' => ∃ v, e = .returned v ∧ Rows.codeForthSpec.post enc Try.prog Try.f12 false true false false W args v W' := by
  have hval : ∀ (j : Nat) t v, Try.f12.params[j]? = some t → args[j]? = some v → Value.okWide Try.prog W .any base t v := hval0
  have hW' := hW
  obtain ⟨p, q, hA0, hV, rfl, hfz, hnd⟩ := hW
  have hA : DataW.TrodAll enc Try.prog W 0 (fun _ => true) true Try.f12.params.toList args.toList ds p := hA0
  rw [Try.params12] at hA hval
  have hlt := trodAll_lt _ _ _ _ hA
  obtain ⟨v0, vs0, d0, ds0, p0, q0, hargs, rfl, hp0, h0, r0⟩ := trodAll_cons hA
  obtain ⟨e1, e2, e3⟩ := trodAll_nil r0
  obtain rfl : args = #[v0] := by cases args; simp_all
  obtain ⟨rfl, rfl⟩ := trodVars_none hV
  subst e2
  have hkb : Rows.uptoBulkAll [d0] ≤ 1048576 := of_decide_eq_true (by simpa only [Rows.uptoSmall, List.append_nil] using hk)
  simp only [Rows.uptoBulkAll] at hkb
  obtain ⟨ga0, ba0, ao0, cp0, x0, rfl, bg0, bb0, gd0, hR0, dr0⟩ := open_mod codeForth_ty h0 (by obtain ⟨cs, rfl, _⟩ := agg_cells (ts := [23, 23, 24]) (hval 0 26 v0 rfl rfl) Try.underlying26 rfl (by kernel_rfl) (by kernel_rfl); exact ⟨cs, rfl⟩)
  have hk0 := bulk_mod CodeForthUpto_bulk dr0 (show Rows.uptoBulk d0 ≤ 1048576 by omega)
  refine (Ret.law (R3law_CodeForth ga0 ba0 x0 ao0 cp0 W hR0 (tiny_small hk0 gd0) (by omega) (by omega) (fun i hi => by obtain ⟨j, hj, rfl⟩ := List.mem_map.1 hi; exact good_okay (gd0 j hj)))).mono fun e W' ⟨he, bel⟩ => ?_
  subst he
  exact ⟨_, rfl, _, _, _, [], _, [], hW', trodAll_mk1 (shut_bool Try.underlying4 _), trodAll_below CodeForthUpto_out bel _ _ _ _ (by kernel_rfl) hA hlt, rfl, bel.frame _, fun h => by cases h⟩

set_option maxRecDepth 100000 in
theorem CodeForthUpto_lifted (os : Os) (started : os.Started) (H : Type) (enc : TypeId × Value → H) (F : Stop.Interp) :
    ReturnsInHanded {} Try.checked os 12 .any ((Rows.OpenSpec.upto Rows.codeForthSpec).pre6 enc Try.prog Try.f12 Rows.codeForthUptoRow.domain false) (((Rows.OpenSpec.upto Rows.codeForthSpec).at F).post enc Try.prog Try.f12 false true false false) := by
  refine returnsInHanded_of_cond (C := Try.checked) (s := (Rows.OpenSpec.upto Rows.codeForthSpec)) (k := Rows.uptoSmall) rfl CodeForthUpto_own started (by kernel_rfl) Try.func12
    (OpenSpec.witness (enc := enc) (C := Try.checked) (s := (Rows.OpenSpec.upto Rows.codeForthSpec)) (k := Rows.uptoSmall) rfl false ⟨#[], #[.agg #[.int .u32 0, .int .u32 0, .slice none 0 0]], []⟩ 8 (by kernel_rfl) (by kernel_rfl) (by kernel_rfl)
      (x := ([.agg [.lit (.int .u32 0), .lit (.int .u32 0), .nil]], [], [])) (by kernel_rfl) rfl (by kernel_rfl)) ?_
  intro W base args ds gs before hval hW _ hk _
  exact CodeForthUpto_contract H enc W base args ds gs before hval hW hk

theorem holds_CodeForthUpto : Rows.CodeForthUptoSaid :=
  OpenClaim.holds_of_cond 12 Try.f12 rfl rfl rfl rfl rfl rfl rfl ⟨rfl, rfl, rfl, rfl, rfl⟩ rfl rfl rfl rfl rfl (by kernel_rfl) Try.func12 (by kernel_rfl)
    (of_decide_eq_true (by kernel_rfl)) (by unfold Func.isWrapper; first | (rw [if_pos (by decide +kernel)]; kernel_rfl) | (rw [if_neg (by decide +kernel)]; exact ⟨rfl, rfl⟩))
    (fun os started H enc _ F => CodeForthUpto_lifted os started H enc F)
#print axioms holds_CodeForthUpto
end Go.Proofs.Ytoodfjpigminkaa
