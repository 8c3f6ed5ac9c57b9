/-
  The law LayoutCuts holds of every input whose bulk is small (the bound of the Rows text): called with such arguments, it returns true, and every argument reads behind the call as it read before.
  The condition is the bound alone.
-/
import Derived.Test.YtbjkagmkphmefaaRows
import Derived.Test.YtbjkagmkphmefaaSkG0f
import Derived.JoinedCond
set_option linter.unusedVariables false
set_option linter.unusedSimpArgs false
namespace Go.Proofs.Ytbjkagmkphmefaa
open Go.ChangeShapes Go.WideShapes Go.ChangeAt Go.RowKit Go.SK

theorem LayoutCutsUpto_one {H : Type} (d : DataW H) : 1 ≤ Rows.uptoBulk d := by
  cases d with
  | lit l => cases l <;> simp [Rows.uptoBulk]
  | nil => simp [Rows.uptoBulk]
  | ptr d => simp [Rows.uptoBulk]
  | slice elems spare => simp [Rows.uptoBulk]
  | agg parts => simp [Rows.uptoBulk]
  | iface t d => simp [Rows.uptoBulk]
  | map entries => simp [Rows.uptoBulk]
  | held h => simp [Rows.uptoBulk]
theorem LayoutCutsUpto_len {H : Type} (l : List (DataW H)) : l.length ≤ Rows.uptoBulkAll l := by
  induction l with
  | nil => simp [Rows.uptoBulkAll]
  | cons x r ih => have := LayoutCutsUpto_one x; simp only [Rows.uptoBulkAll, List.length_cons]; omega
theorem LayoutCutsUpto_sl {H : Type} (elems spare : List (DataW H)) : elems.length ≤ Rows.uptoBulk (.slice elems spare) ∧ Rows.uptoBulkAll elems ≤ Rows.uptoBulk (.slice elems spare) := by
  have h1 := LayoutCutsUpto_len elems
  simp only [Rows.uptoBulk]
  omega
theorem LayoutCutsUpto_str {H : Type} (bytes : List UInt8) : bytes.length ≤ Rows.uptoBulk (DataW.lit (H := H) (.string bytes)) := by
  simp only [Rows.uptoBulk]
  omega

def layoutCuts_ty : MdTys Try.prog 25 39 35 := ⟨_, _, _, _, _, _, _, _, _, _, Try.underlying25, Try.underlying39, Try.underlying35, ⟨rfl, by kernel_rfl, Try.underlying22⟩, ⟨rfl, by kernel_rfl, Try.underlying22⟩, ⟨rfl, by kernel_rfl, Try.underlying23⟩, ⟨rfl, by kernel_rfl, Try.underlying33⟩, ⟨rfl, by kernel_rfl, Try.underlying22⟩, ⟨rfl, by kernel_rfl, Try.underlying22⟩, ⟨rfl, by kernel_rfl, Try.underlying37⟩, ⟨rfl, by kernel_rfl, Try.underlying5⟩, ⟨rfl, by kernel_rfl, Try.underlying22⟩, ⟨rfl, by kernel_rfl, Try.underlying9⟩, by kernel_rfl, by kernel_rfl, by kernel_rfl, by kernel_rfl, by kernel_rfl⟩
theorem LayoutCutsUpto_bulk {H : Type} : BulkOk (H := H) Rows.uptoBulk Rows.uptoBulkAll := ⟨fun b => by simp only [Rows.uptoBulk]; omega, LayoutCutsUpto_one, fun l => by simp only [Rows.uptoBulk]; omega, fun l sp => by simp only [Rows.uptoBulk]; omega, fun d r => by simp only [Rows.uptoBulkAll]⟩
theorem LayoutCutsUpto_own : ownKnob Try.prog.godebug = none := by kernel_rfl
theorem LayoutCutsUpto_out : laidOutB Try.prog = true := by kernel_rfl
set_option maxRecDepth 100000 in
theorem LayoutCutsUpto_contract (H : Type) (enc : TypeId × Value → H) (W : World) (base : Nat) (args : Array Value) (ds gs : List (DataW H)) (before : List MemPlace)
    (hval0 : ∀ (j : Nat) t v, Try.f6.params[j]? = some t → args[j]? = some v → Value.okWide Try.prog W .any base t v)
    (hW : DataW.Whole enc Try.prog Try.f6.params.toList Rows.layoutCutsSpec.vars false W args.toList ds gs before) (hk : Rows.uptoSmall H (ds ++ gs) = true) :
    Calls Try.prog 6 args W fun e W' => ∃ v, e = .returned v ∧ Rows.layoutCutsSpec.post enc Try.prog Try.f6 false true false false W args v W' := by
  have hval : ∀ (j : Nat) t v, Try.f6.params[j]? = some t → args[j]? = some v → Value.okWide Try.prog W .any base t v := hval0
  have hW' := hW
  obtain ⟨p, q, hA0, hV, rfl, hfz, hnd⟩ := hW
  have hA : DataW.TrodAll enc Try.prog W 0 (fun _ => true) true Try.f6.params.toList args.toList ds p := hA0
  rw [Try.params6] at hA hval
  have hlt := trodAll_lt _ _ _ _ hA
  obtain ⟨v0, vs0, d0, ds0, p0, q0, hargs, rfl, hp0, h0, r0⟩ := trodAll_cons hA
  obtain ⟨e1, e2, e3⟩ := trodAll_nil r0
  obtain rfl : args = #[v0] := by cases args; simp_all
  obtain ⟨rfl, rfl⟩ := trodVars_none hV
  subst e2
  have hkb : Rows.uptoBulkAll [d0] ≤ 1048576 := of_decide_eq_true (by simpa only [Rows.uptoSmall, List.append_nil] using hk)
  simp only [Rows.uptoBulkAll] at hkb
  obtain ⟨ga0, ba0, ao0, cp0, x0, rfl, bg0, bb0, gd0, hR0, dr0⟩ := open_mod layoutCuts_ty h0 (by obtain ⟨cs, rfl, _⟩ := agg_cells (ts := [22, 22, 23]) (hval 0 25 v0 rfl rfl) Try.underlying25 rfl (by kernel_rfl) (by kernel_rfl); exact ⟨cs, rfl⟩)
  have hk0 := bulk_mod LayoutCutsUpto_bulk dr0 (show Rows.uptoBulk d0 ≤ 1048576 by omega)
  refine (Ret.law (R5law_LayoutCuts ga0 ba0 x0 ao0 cp0 W hR0 (tiny_small hk0 gd0))).mono fun e W' ⟨he, bel⟩ => ?_
  subst he
  exact ⟨_, rfl, _, _, _, [], _, [], hW', trodAll_mk1 (shut_bool Try.underlying4 _), trodAll_below LayoutCutsUpto_out bel _ _ _ _ (by kernel_rfl) hA hlt, rfl, bel.frame _, fun h => by cases h⟩

set_option maxRecDepth 100000 in
theorem LayoutCutsUpto_lifted (os : Os) (started : os.Started) (H : Type) (enc : TypeId × Value → H) (F : Stop.Interp) :
    ReturnsInHanded {} Try.checked os 6 .any ((Rows.OpenSpec.upto Rows.layoutCutsSpec).pre6 enc Try.prog Try.f6 Rows.layoutCutsUptoRow.domain false) (((Rows.OpenSpec.upto Rows.layoutCutsSpec).at F).post enc Try.prog Try.f6 false true false false) := by
  refine returnsInHanded_of_cond (C := Try.checked) (s := (Rows.OpenSpec.upto Rows.layoutCutsSpec)) (k := Rows.uptoSmall) rfl LayoutCutsUpto_own started (by kernel_rfl) Try.func6
    (OpenSpec.witness (enc := enc) (C := Try.checked) (s := (Rows.OpenSpec.upto Rows.layoutCutsSpec)) (k := Rows.uptoSmall) rfl false ⟨#[], #[.agg #[.int .u32 0, .int .u32 0, .slice none 0 0]], []⟩ 8 (by kernel_rfl) (by kernel_rfl) (by kernel_rfl)
      (x := ([.agg [.lit (.int .u32 0), .lit (.int .u32 0), .nil]], [], [])) (by kernel_rfl) rfl (by kernel_rfl)) ?_
  intro W base args ds gs before hval hW _ hk _
  exact LayoutCutsUpto_contract H enc W base args ds gs before hval hW hk

theorem holds_LayoutCutsUpto : Rows.LayoutCutsUptoSaid :=
  OpenClaim.holds_of_cond 6 Try.f6 rfl rfl rfl rfl rfl rfl rfl ⟨rfl, rfl, rfl, rfl, rfl⟩ rfl rfl rfl rfl rfl (by kernel_rfl) Try.func6 (by kernel_rfl)
    (of_decide_eq_true (by kernel_rfl)) (by unfold Func.isWrapper; first | (rw [if_pos (by decide +kernel)]; kernel_rfl) | (rw [if_neg (by decide +kernel)]; exact ⟨rfl, rfl⟩))
    (fun os started H enc _ F => LayoutCutsUpto_lifted os started H enc F)
#print axioms holds_LayoutCutsUpto
end Go.Proofs.Ytbjkagmkphmefaa
