/-
  The law CodeOne holds of every input whose bulk is small (the bound of the Rows text): called with such arguments, it returns true, and every argument reads behind the call as it read before.
  The condition is the bound alone.
-/
import Derived.Test.YtoodfjpigminkaaRows
import Derived.Test.YtoodfjpigminkaaSkG0d
import Derived.Test.YtoodfjpigminkaaSkG1a
import Derived.Test.YtoodfjpigminkaaSkG2a
import Derived.Test.YtoodfjpigminkaaSkG3a
import Derived.Test.YtoodfjpigminkaaSkG4a
import Derived.Test.YtoodfjpigminkaaSkG5a
import Derived.Test.YtoodfjpigminkaaSkG7a
import Derived.Test.YtoodfjpigminkaaSkG8a
import Derived.Test.YtoodfjpigminkaaSkG9a
import Derived.Test.YtoodfjpigminkaaSkG10a
import Derived.Test.YtoodfjpigminkaaSkG11a
import Derived.Test.YtoodfjpigminkaaSkG12a
import Derived.Test.YtoodfjpigminkaaSkG19a
import Derived.Test.YtoodfjpigminkaaSkG20a
import Derived.Test.YtoodfjpigminkaaSkG24a
import Derived.Test.YtoodfjpigminkaaSkG27a
import Derived.Test.YtoodfjpigminkaaSkG28a
import Derived.Test.YtoodfjpigminkaaSkG36a
import Derived.Test.YtoodfjpigminkaaSkG43a
import Derived.JoinedCond
set_option linter.unusedVariables false
set_option linter.unusedSimpArgs false
namespace Go.Proofs.Ytoodfjpigminkaa
open Go.ChangeShapes Go.WideShapes Go.ChangeAt Go.RowKit Go.SK

theorem CodeOneUpto_one {H : Type} (d : DataW H) : 1 ≤ Rows.uptoBulk d := by
  cases d with
  | lit l => cases l <;> simp [Rows.uptoBulk]
  | nil => simp [Rows.uptoBulk]
  | ptr d => simp [Rows.uptoBulk]
  | slice elems spare => simp [Rows.uptoBulk]
  | agg parts => simp [Rows.uptoBulk]
  | iface t d => simp [Rows.uptoBulk]
  | map entries => simp [Rows.uptoBulk]
  | held h => simp [Rows.uptoBulk]
theorem CodeOneUpto_len {H : Type} (l : List (DataW H)) : l.length ≤ Rows.uptoBulkAll l := by
  induction l with
  | nil => simp [Rows.uptoBulkAll]
  | cons x r ih => have := CodeOneUpto_one x; simp only [Rows.uptoBulkAll, List.length_cons]; omega
theorem CodeOneUpto_sl {H : Type} (elems spare : List (DataW H)) : elems.length ≤ Rows.uptoBulk (.slice elems spare) ∧ Rows.uptoBulkAll elems ≤ Rows.uptoBulk (.slice elems spare) := by
  have h1 := CodeOneUpto_len elems
  simp only [Rows.uptoBulk]
  omega
theorem CodeOneUpto_str {H : Type} (bytes : List UInt8) : bytes.length ≤ Rows.uptoBulk (DataW.lit (H := H) (.string bytes)) := by
  simp only [Rows.uptoBulk]
  omega

def codeOne_ty : MdTys Try.prog 26 48 71 := ⟨_, _, _, _, _, _, _, _, _, _, Try.underlying26, Try.underlying48, Try.underlying71, ⟨rfl, by kernel_rfl, Try.underlying23⟩, ⟨rfl, by kernel_rfl, Try.underlying23⟩, ⟨rfl, by kernel_rfl, Try.underlying24⟩, ⟨rfl, by kernel_rfl, Try.underlying42⟩, ⟨rfl, by kernel_rfl, Try.underlying23⟩, ⟨rfl, by kernel_rfl, Try.underlying23⟩, ⟨rfl, by kernel_rfl, Try.underlying46⟩, ⟨rfl, by kernel_rfl, Try.underlying5⟩, ⟨rfl, by kernel_rfl, Try.underlying23⟩, ⟨rfl, by kernel_rfl, Try.underlying9⟩, by kernel_rfl, by kernel_rfl, by kernel_rfl, by kernel_rfl, by kernel_rfl⟩
def codeOne_rw : RawTys Try.prog 45 43 23 := ⟨_, _, Try.underlying45, Try.underlying23, ⟨rfl, by kernel_rfl, Try.underlying42⟩, ⟨rfl, by kernel_rfl, Try.underlying43⟩, by kernel_rfl, by kernel_rfl, by kernel_rfl⟩
theorem CodeOneUpto_bulk {H : Type} : BulkOk (H := H) Rows.uptoBulk Rows.uptoBulkAll := ⟨fun b => by simp only [Rows.uptoBulk]; omega, CodeOneUpto_one, fun l => by simp only [Rows.uptoBulk]; omega, fun l sp => by simp only [Rows.uptoBulk]; omega, fun d r => by simp only [Rows.uptoBulkAll]⟩
theorem CodeOneUpto_own : ownKnob Try.prog.godebug = none := by kernel_rfl
theorem CodeOneUpto_out : laidOutB Try.prog = true := by kernel_rfl
set_option maxRecDepth 100000 in
theorem CodeOneUpto_contract (H : Type) (enc : TypeId × Value → H) (W : World) (base : Nat) (args : Array Value) (ds gs : List (DataW H)) (before : List MemPlace)
    (hval0 : ∀ (j : Nat) t v, Try.f9.params[j]? = some t → args[j]? = some v → Value.okWide Try.prog W .any base t v)
    (hW : DataW.Whole enc Try.prog Try.f9.params.toList Rows.codeOneSpec.vars false W args.toList ds gs before) (hk : Rows.uptoSmall H (ds ++ gs) = true) :
    Calls Try.prog 9 args W fun e W' => ∃ v, e = .returned v ∧ Rows.codeOneSpec.post enc Try.prog Try.f9 false true false false W args v W' := by
  have hval : ∀ (j : Nat) t v, Try.f9.params[j]? = some t → args[j]? = some v → Value.okWide Try.prog W .any base t v := hval0
  have hW' := hW
  obtain ⟨p, q, hA0, hV, rfl, hfz, hnd⟩ := hW
  have hA : DataW.TrodAll enc Try.prog W 0 (fun _ => true) true Try.f9.params.toList args.toList ds p := hA0
  rw [Try.params9] at hA hval
  have hlt := trodAll_lt _ _ _ _ hA
  obtain ⟨v0, vs0, d0, ds0, p0, q0, hargs, rfl, hp0, h0, r0⟩ := trodAll_cons hA
  obtain ⟨v1, vs1, d1, ds1, p1, q1, hargs1, rfl, hp1, h1, r1⟩ := trodAll_cons r0
  obtain ⟨v2, vs2, d2, ds2, p2, q2, hargs2, rfl, hp2, h2, r2⟩ := trodAll_cons r1
  obtain ⟨e1, e2, e3⟩ := trodAll_nil r2
  obtain rfl : args = #[v0, v1, v2] := by cases args; simp_all
  obtain ⟨rfl, rfl⟩ := trodVars_none hV
  subst e2
  have hkb : Rows.uptoBulkAll [d0, d1, d2] ≤ 1048576 := of_decide_eq_true (by simpa only [Rows.uptoSmall, List.append_nil] using hk)
  simp only [Rows.uptoBulkAll] at hkb
  obtain ⟨io0, it0, ir0, ao0, cp0, x0, rfl, ig0, dr0⟩ := open_inst codeOne_ty h0 (by obtain ⟨cs, rfl, _⟩ := agg_cells (ts := [42, 23, 23, 46]) (hval 0 48 v0 rfl rfl) Try.underlying48 rfl (by kernel_rfl) (by kernel_rfl); exact ⟨cs, rfl⟩)
  have hk0 := bulk_inst CodeOneUpto_bulk dr0 (show Rows.uptoBulk d0 ≤ 1048576 by omega)
  obtain ⟨x1, rfl, bx1⟩ := cell_int (val_cell (hval 1 23 v1 rfl rfl) Try.underlying23 rfl) Try.underlying23
  replace bx1 := has_u32 bx1
  obtain ⟨x2, rfl, bx2⟩ := cell_int (val_cell (hval 2 23 v2 rfl rfl) Try.underlying23 rfl) Try.underlying23
  replace bx2 := has_u32 bx2
  refine (Ret.law (R3law_CodeOne (⟨io0, it0, ir0, ao0, cp0, x0⟩ : InstP) x1 x2 W (good_okay ig0) hk0 ig0.2.2.2.2)).mono fun e W' ⟨he, bel⟩ => ?_
  subst he
  exact ⟨_, rfl, _, _, _, [], _, [], hW', trodAll_mk1 (shut_bool Try.underlying4 _), trodAll_below CodeOneUpto_out bel _ _ _ _ (by kernel_rfl) hA hlt, rfl, bel.frame _, fun h => by cases h⟩

set_option maxRecDepth 100000 in
theorem CodeOneUpto_lifted (os : Os) (started : os.Started) (H : Type) (enc : TypeId × Value → H) (F : Stop.Interp) :
    ReturnsInHanded {} Try.checked os 9 .any ((Rows.OpenSpec.upto Rows.codeOneSpec).pre6 enc Try.prog Try.f9 Rows.codeOneUptoRow.domain false) (((Rows.OpenSpec.upto Rows.codeOneSpec).at F).post enc Try.prog Try.f9 false true false false) := by
  refine returnsInHanded_of_cond (C := Try.checked) (s := (Rows.OpenSpec.upto Rows.codeOneSpec)) (k := Rows.uptoSmall) rfl CodeOneUpto_own started (by kernel_rfl) Try.func9
    (OpenSpec.witness (enc := enc) (C := Try.checked) (s := (Rows.OpenSpec.upto Rows.codeOneSpec)) (k := Rows.uptoSmall) rfl false ⟨#[], #[.agg #[.int .u16 0, .int .u32 0, .int .u32 0, .slice none 0 0], .int .u32 0, .int .u32 0], []⟩ 8 (by kernel_rfl) (by kernel_rfl) (by kernel_rfl)
      (x := ([.agg [.lit (.int .u16 0), .lit (.int .u32 0), .lit (.int .u32 0), .nil], .lit (.int .u32 0), .lit (.int .u32 0)], [], [])) (by kernel_rfl) rfl (by kernel_rfl)) ?_
  intro W base args ds gs before hval hW _ hk _
  exact CodeOneUpto_contract H enc W base args ds gs before hval hW hk

theorem holds_CodeOneUpto : Rows.CodeOneUptoSaid :=
  OpenClaim.holds_of_cond 9 Try.f9 rfl rfl rfl rfl rfl rfl rfl ⟨rfl, rfl, rfl, rfl, rfl⟩ rfl rfl rfl rfl rfl (by kernel_rfl) Try.func9 (by kernel_rfl)
    (of_decide_eq_true (by kernel_rfl)) (by unfold Func.isWrapper; first | (rw [if_pos (by decide +kernel)]; kernel_rfl) | (rw [if_neg (by decide +kernel)]; exact ⟨rfl, rfl⟩))
    (fun os started H enc _ F => CodeOneUpto_lifted os started H enc F)
#print axioms holds_CodeOneUpto
end Go.Proofs.Ytoodfjpigminkaa
