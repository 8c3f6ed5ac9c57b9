/-
  The law GrammarRows holds of every input whose bulk is small (the bound of the Rows text): called with such arguments, it returns true, and every argument reads behind the call as it read before.
  The condition is the bound alone.
-/
import Derived.Test.YtheckaonphmmiaaRows
import Derived.Test.YtheckaonphmmiaaSkG
import Derived.Test.YtheckaonphmmiaaSkR
import Derived.Test.YtheckaonphmmiaaSkR2GrJ
import Derived.JoinedCond
set_option linter.unusedVariables false
set_option linter.unusedSimpArgs false
namespace Go.Proofs.Ytheckaonphmmiaa
open Go.ChangeShapes Go.WideShapes Go.ChangeAt Go.RowKit Go.SK

theorem GrammarRowsUpto_one {H : Type} (d : DataW H) : 1 ≤ Rows.uptoBulk d := by
  cases d with
  | lit l => cases l <;> simp [Rows.uptoBulk]
  | nil => simp [Rows.uptoBulk]
  | ptr d => simp [Rows.uptoBulk]
  | slice elems spare => simp [Rows.uptoBulk]
  | agg parts => simp [Rows.uptoBulk]
  | iface t d => simp [Rows.uptoBulk]
  | map entries => simp [Rows.uptoBulk]
  | held h => simp [Rows.uptoBulk]
theorem GrammarRowsUpto_len {H : Type} (l : List (DataW H)) : l.length ≤ Rows.uptoBulkAll l := by
  induction l with
  | nil => simp [Rows.uptoBulkAll]
  | cons x r ih => have := GrammarRowsUpto_one x; simp only [Rows.uptoBulkAll, List.length_cons]; omega
theorem GrammarRowsUpto_sl {H : Type} (elems spare : List (DataW H)) : elems.length ≤ Rows.uptoBulk (.slice elems spare) ∧ Rows.uptoBulkAll elems ≤ Rows.uptoBulk (.slice elems spare) := by
  have h1 := GrammarRowsUpto_len elems
  simp only [Rows.uptoBulk]
  omega
theorem GrammarRowsUpto_str {H : Type} (bytes : List UInt8) : bytes.length ≤ Rows.uptoBulk (DataW.lit (H := H) (.string bytes)) := by
  simp only [Rows.uptoBulk]
  omega

theorem GrammarRowsUpto_own : ownKnob Try.prog.godebug = none := by kernel_rfl
theorem GrammarRowsUpto_out : laidOutB Try.prog = true := by kernel_rfl
theorem GrammarRowsUpto_contract (H : Type) (enc : TypeId × Value → H) (W : World) (base : Nat) (args : Array Value) (ds gs : List (DataW H)) (before : List MemPlace)
    (hval0 : ∀ (j : Nat) t v, Try.f10.params[j]? = some t → args[j]? = some v → Value.okWide Try.prog W .any base t v)
    (hW : DataW.Whole enc Try.prog Try.f10.params.toList Rows.grammarRowsSpec.vars false W args.toList ds gs before) (hk : Rows.uptoSmall H (ds ++ gs) = true) :
    Calls Try.prog 10 args W fun e W' => ∃ v, e = .returned v ∧ Rows.grammarRowsSpec.post enc Try.prog Try.f10 false true false false W args v W' := by
  have hval : ∀ (j : Nat) t v, Try.f10.params[j]? = some t → args[j]? = some v → Value.okWide Try.prog W .any base t v := hval0
  have hW' := hW
  obtain ⟨p, q, hA0, hV, rfl, hfz, hnd⟩ := hW
  have hA : DataW.TrodAll enc Try.prog W 0 (fun _ => true) true Try.f10.params.toList args.toList ds p := hA0
  rw [Try.params10] at hA hval
  have hlt := trodAll_lt _ _ _ _ hA
  obtain ⟨v0, vs0, d0, ds0, p0, q0, hargs, rfl, hp0, h0, r0⟩ := trodAll_cons hA
  obtain ⟨v1, vs1, d1, ds1, p1, q1, hargs1, rfl, hp1, h1, r1⟩ := trodAll_cons r0
  obtain ⟨v2, vs2, d2, ds2, p2, q2, hargs2, rfl, hp2, h2, r2⟩ := trodAll_cons r1
  obtain ⟨e1, e2, e3⟩ := trodAll_nil r2
  obtain rfl : args = #[v0, v1, v2] := by cases args; simp_all
  obtain ⟨rfl, rfl⟩ := trodVars_none hV
  subst e2
  have hkb : Rows.uptoBulkAll [d0, d1, d2] ≤ 1048576 := of_decide_eq_true (by simpa only [Rows.uptoSmall, List.append_nil] using hk)
  simp only [Rows.uptoBulkAll] at hkb
  obtain ⟨x0, rfl, bx0⟩ := cell_int (val_cell (hval 0 36 v0 rfl rfl) Try.underlying36 rfl) Try.underlying36
  replace bx0 := has_u16 bx0
  have hs1 := slice_cells (hval 1 53 v1 rfl rfl) Try.underlying53
  obtain ⟨ao1, cp1, x1, rfl, bm1, bg1, hR1, dr1⟩ := open_flat (g := u8C) (good := fun x => 0 ≤ x ∧ x ≤ 255) (rel := fun _ _ => True) (es := 1) Try.underlying53 (by kernel_rfl) (by decide) u8C_len (open_u8 Try.underlying5) h1 hs1
  have hl1 : x1.length ≤ 1048576 := by
    have hkc := hkb
    rcases dr1 with ⟨_, rfl⟩ | ⟨elems, sp, rfl, he, _⟩
    · simp
    · have := (GrammarRowsUpto_sl elems sp).1; omega
  have hs2 := slice_cells (hval 2 53 v2 rfl rfl) Try.underlying53
  obtain ⟨ao2, cp2, x2, rfl, bm2, bg2, hR2, dr2⟩ := open_flat (g := u8C) (good := fun x => 0 ≤ x ∧ x ≤ 255) (rel := fun _ _ => True) (es := 1) Try.underlying53 (by kernel_rfl) (by decide) u8C_len (open_u8 Try.underlying5) h2 hs2
  have hl2 : x2.length ≤ 1048576 := by
    have hkc := hkb
    rcases dr2 with ⟨_, rfl⟩ | ⟨elems, sp, rfl, he, _⟩
    · simp
    · have := (GrammarRowsUpto_sl elems sp).1; omega
  refine (Ret.law (R2law_GrammarRows x0 bx0.1 x1 ao1 cp1 x2 ao2 cp2 W hR1 hR2 hl1 hl2)).mono fun e W' ⟨he, bel⟩ => ?_
  subst he
  exact ⟨_, rfl, _, _, _, [], _, [], hW', trodAll_mk1 (shut_bool Try.underlying4 _), trodAll_below GrammarRowsUpto_out bel _ _ _ _ (by kernel_rfl) hA hlt, rfl, bel.frame _, fun h => by cases h⟩

set_option maxRecDepth 100000 in
theorem GrammarRowsUpto_lifted (os : Os) (started : os.Started) (H : Type) (enc : TypeId × Value → H) (F : Stop.Interp) :
    ReturnsInHanded {} Try.checked os 10 .any ((Rows.OpenSpec.upto Rows.grammarRowsSpec).pre6 enc Try.prog Try.f10 Rows.grammarRowsUptoRow.domain false) (((Rows.OpenSpec.upto Rows.grammarRowsSpec).at F).post enc Try.prog Try.f10 false true false false) := by
  refine returnsInHanded_of_cond (C := Try.checked) (s := (Rows.OpenSpec.upto Rows.grammarRowsSpec)) (k := Rows.uptoSmall) rfl GrammarRowsUpto_own started (by kernel_rfl) Try.func10
    (OpenSpec.witness (enc := enc) (C := Try.checked) (s := (Rows.OpenSpec.upto Rows.grammarRowsSpec)) (k := Rows.uptoSmall) rfl false ⟨#[], #[.int .u16 0, .slice none 0 0, .slice none 0 0], []⟩ 8 (by kernel_rfl) (by kernel_rfl) (by kernel_rfl)
      (x := ([.lit (.int .u16 0), .nil, .nil], [], [])) (by kernel_rfl) rfl (by kernel_rfl)) ?_
  intro W base args ds gs before hval hW _ hk _
  exact GrammarRowsUpto_contract H enc W base args ds gs before hval hW hk

theorem holds_GrammarRowsUpto : Rows.GrammarRowsUptoSaid :=
  OpenClaim.holds_of_cond 10 Try.f10 rfl rfl rfl rfl rfl rfl rfl ⟨rfl, rfl, rfl, rfl, rfl⟩ rfl rfl rfl rfl rfl (by kernel_rfl) Try.func10 (by kernel_rfl)
    (of_decide_eq_true (by kernel_rfl)) (by unfold Func.isWrapper; first | (rw [if_pos (by decide +kernel)]; kernel_rfl) | (rw [if_neg (by decide +kernel)]; exact ⟨rfl, rfl⟩))
    (fun os started H enc _ F => GrammarRowsUpto_lifted os started H enc F)
#print axioms holds_GrammarRowsUpto
end Go.Proofs.Ytheckaonphmmiaa
