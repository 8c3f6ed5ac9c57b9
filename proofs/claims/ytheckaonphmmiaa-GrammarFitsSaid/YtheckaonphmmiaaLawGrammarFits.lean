/-
  The law GrammarFits holds of every input: called with whatever arguments, it returns true, and every argument reads behind the call as it read before.
  No condition.
-/
import Derived.Test.YtheckaonphmmiaaRows
import Derived.Test.YtheckaonphmmiaaSkG
import Derived.Test.YtheckaonphmmiaaSkR
import Derived.Test.YtheckaonphmmiaaSkR2GrI
set_option linter.unusedVariables false
set_option linter.unusedSimpArgs false
namespace Go.Proofs.Ytheckaonphmmiaa
open Go.ChangeShapes Go.WideShapes Go.ChangeAt Go.RowKit Go.SK

theorem GrammarFits_own : ownKnob Try.prog.godebug = none := by kernel_rfl
theorem GrammarFits_out : laidOutB Try.prog = true := by kernel_rfl
set_option maxRecDepth 100000 in
theorem GrammarFits_lifted (os : Os) (started : os.Started) (H : Type) (enc : TypeId × Value → H) :
    ReturnsInHanded {} Try.checked os 9 .any (Rows.grammarFitsSpec.pre6 enc Try.prog Try.f9 Rows.grammarFitsRow.domain false) (Rows.grammarFitsSpec.post enc Try.prog Try.f9 false true false false) := by
  refine returnsInHanded_of_change_sized (C := Try.checked) GrammarFits_own started (by kernel_rfl) Try.func9
    (ChangeSpec.witness6 (enc := enc) (C := Try.checked) false ⟨#[], #[.int .u16 0, .slice none 0 0], []⟩ 8 (by kernel_rfl) (by kernel_rfl) (by kernel_rfl) (by kernel_rfl)) ?_
  intro W base args ds gs before hval0 hW hcnd hsz _
  have hval : ∀ (j : Nat) t v, Try.f9.params[j]? = some t → args[j]? = some v → Value.okWide Try.prog W .any base t v := hval0
  have hW' := hW
  obtain ⟨p, q, hA0, hV, rfl, hfz, hnd⟩ := hW
  have hA : DataW.TrodAll enc Try.prog W 0 (fun _ => true) true Try.f9.params.toList args.toList ds p := hA0
  rw [Try.params9] at hA hval
  have hlt := trodAll_lt _ _ _ _ hA
  obtain ⟨v0, vs0, d0, ds0, p0, q0, hargs, rfl, hp0, h0, r0⟩ := trodAll_cons hA
  obtain ⟨v1, vs1, d1, ds1, p1, q1, hargs1, rfl, hp1, h1, r1⟩ := trodAll_cons r0
  obtain ⟨e1, e2, e3⟩ := trodAll_nil r1
  obtain rfl : args = #[v0, v1] := by cases args; simp_all
  obtain ⟨rfl, rfl⟩ := trodVars_none hV
  subst e2
  obtain ⟨x0, rfl, bx0⟩ := cell_int (val_cell (hval 0 36 v0 rfl rfl) Try.underlying36 rfl) Try.underlying36
  replace bx0 := has_u16 bx0
  have hs1 := slice_cells (hval 1 53 v1 rfl rfl) Try.underlying53
  obtain ⟨ao1, cp1, x1, rfl, bm1, bg1, hR1, dr1⟩ := open_flat (g := u8C) (good := fun x => 0 ≤ x ∧ x ≤ 255) (rel := fun _ _ => True) (es := 1) Try.underlying53 (by kernel_rfl) (by decide) u8C_len (open_u8 Try.underlying5) h1 hs1
  have hl1 := len_sized (b := 1) (n := x1.length) (z := True) hsz (j := 1) rfl rfl Try.underlying53 (by kernel_rfl) (dr1.imp (fun h => by rw [h.2]; rfl) id)
  refine (Ret.law (R2law_GrammarFits x0 bx0.1 x1 ao1 cp1 W hR1 (by omega))).mono fun e W' ⟨he, bel⟩ => ?_
  subst he
  exact ⟨_, rfl, _, _, _, [], _, [], hW', trodAll_mk1 (shut_bool Try.underlying4 _), trodAll_below GrammarFits_out bel _ _ _ _ (by kernel_rfl) hA hlt, rfl, bel.frame _, fun h => by cases h⟩

theorem holds_GrammarFits : Rows.GrammarFitsSaid :=
  OpenClaim.holds_of_wide 9 Try.f9 rfl rfl rfl rfl rfl rfl rfl ⟨rfl, rfl, rfl, rfl, rfl⟩ rfl rfl rfl rfl rfl (by kernel_rfl) Try.func9 (by kernel_rfl)
    (of_decide_eq_true (by kernel_rfl)) (by unfold Func.isWrapper; first | (rw [if_pos (by decide +kernel)]; kernel_rfl) | (rw [if_neg (by decide +kernel)]; exact ⟨rfl, rfl⟩))
    (fun os started H enc _ => GrammarFits_lifted os started H enc)
#print axioms holds_GrammarFits
end Go.Proofs.Ytheckaonphmmiaa
