/-
  The law AsmLines holds of every input whose bulk is small (the bound of the Rows text), in every world that holds the library variables that the row lists: called with such arguments, it returns true, and every argument reads behind the call as it read before.
  The condition is the bound alone.
-/
import Derived.Test.YtglmmdpeenckbaaGreatDoorSkG0f
set_option linter.unusedVariables false
set_option linter.unusedSimpArgs false
namespace Go.Proofs.YtglmmdpeenckbaaGreatDoor
open Go.ChangeShapes Go.WideShapes Go.ChangeAt Go.RowKit Go.SK

set_option maxRecDepth 100000 in
theorem AsmLinesUpto_contract (H : Type) (enc : TypeId × Value → H) (W : World) (base : Nat) (args : Array Value) (ds gs : List (DataW H)) (before : List MemPlace)
    (hval0 : ∀ (j : Nat) t v, Tryz.f7.params[j]? = some t → args[j]? = some v → Value.okWide Tryz.prog W .any base t v)
    (hW : DataW.Whole enc Tryz.prog Tryz.f7.params.toList Rows.asmLinesSpec.vars false W args.toList ds gs before)
    (hk : Rows.uptoSmall H (ds ++ gs) = true)
    (hL : laidMetH Tryz.prog Rows.asmLinesUptoRow.laid W) :
    Calls Tryz.prog 7 args W fun e W' => ∃ v, e = .returned v ∧ Rows.asmLinesSpec.post enc Tryz.prog Tryz.f7 false true false false W args v W' := by
  have hG : LxG.holds W := lxG_of hL
  have hval : ∀ (j : Nat) t v, Tryz.f7.params[j]? = some t → args[j]? = some v → Value.okWide Tryz.prog W .any base t v := hval0
  have hW' := hW
  obtain ⟨p, q, hA0, hV, rfl, hfz, hnd⟩ := hW
  have hA : DataW.TrodAll enc Tryz.prog W 0 (fun _ => true) true Tryz.f7.params.toList args.toList ds p := hA0
  rw [Tryz.params7] at hA hval
  have hlt := trodAll_lt _ _ _ _ hA
  obtain ⟨v0, vs0, d0, ds0, p0, q0, hargs, rfl, hp0, h0, r0⟩ := trodAll_cons hA
  obtain ⟨v1, vs1, d1, ds1, p1, q1, hargs1, rfl, hp1, h1, r1⟩ := trodAll_cons r0
  obtain ⟨e1, e2, e3⟩ := trodAll_nil r1
  obtain rfl : args = #[v0, v1] := by cases args; simp_all
  obtain ⟨rfl, rfl⟩ := trodVars_none hV
  subst e2
  have hkb : Rows.uptoBulkAll [d0, d1] ≤ 1048576 := of_decide_eq_true (by simpa only [Rows.uptoSmall, List.append_nil] using hk)
  simp only [Rows.uptoBulkAll] at hkb
  obtain ⟨x0, rfl, hd0, b0⟩ := open_str Tryz.underlying9 (hval 0 9 v0 rfl rfl) h0
  have hl0 : x0.length ≤ 1048576 := by
    have hkc := hkb
    rw [hd0] at hkc
    simp only [Rows.uptoBulk] at hkc; omega
  obtain ⟨x1, rfl, bx1⟩ := cell_int (val_cell (hval 1 22 v1 rfl rfl) Tryz.underlying22 rfl) Tryz.underlying22
  replace bx1 := has_u32 bx1
  refine (Ret.law (R7law_AsmLines x0 x1 W hG (by omega) (by omega) ⟨bx1.1, by omega⟩)).mono fun e W' ⟨he, bel⟩ => ?_
  subst he
  exact ⟨_, rfl, _, _, _, [], _, [], hW', trodAll_mk1 (shut_bool Tryz.underlying4 _), trodAll_below lx_out bel _ _ _ _ (by kernel_rfl) hA hlt, rfl, bel.frame _, fun h => by cases h⟩

theorem AsmLinesUpto_reads (os : Os) {H : Type} (enc : TypeId × Value → H) : ∃ places, DataW.whole enc Tryz.prog ((World.doorLaid Tryz.prog 400 os).forCall (fun _ _ => 0) ⟨#[], #[.string ⟨#[]⟩, .int .u32 0], []⟩).memory Tryz.f7.params.toList Rows.asmLinesSpec.vars false (#[.string ⟨#[]⟩, .int .u32 0] : Array Value).toList 8 = some ([.lit (.string []), .lit (.int .u32 0)], [], places) :=
  ⟨[], by kernel_rfl⟩
set_option maxRecDepth 100000 in
theorem AsmLinesUpto_lifted (os : Os) (started : os.Started) (H : Type) (enc : TypeId × Value → H) (F : Stop.Interp) :
    ReturnsInHanded {} Tryz.checked os 7 .any ((Rows.OpenSpec.upto Rows.asmLinesSpec).preRow enc Tryz.prog Tryz.f7 Rows.asmLinesUptoRow.domain false Rows.asmLinesUptoRow.laid) (((Rows.OpenSpec.upto Rows.asmLinesSpec).at F).post enc Tryz.prog Tryz.f7 false true false false) := by
  obtain ⟨places, hx⟩ := AsmLinesUpto_reads os enc
  refine returnsInHanded_of_row (C := Tryz.checked) (s := Rows.OpenSpec.upto Rows.asmLinesSpec) lx_own started (by kernel_rfl) Tryz.func7
    (witness_row_atRef (enc := enc) (C := Tryz.checked) false (World.doorLaid Tryz.prog 400 os) #[.string ⟨#[]⟩, .int .u32 0] rfl (by kernel_rfl) (by kernel_rfl) (by kernel_rfl)
      (OpenSpec.preRow_of_cond 8 hx (by kernel_rfl) (fun k hk => by cases hk; kernel_rfl) (by kernel_rfl) (lx_door os _))) ?_
  intro W base args ds gs before hval hW _ hcond _ hL _ _
  exact AsmLinesUpto_contract H enc W base args ds gs before hval hW (hcond _ rfl) hL
set_option maxHeartbeats 40000000 in
set_option maxRecDepth 100000 in
theorem AsmLinesUpto_closed : joinedFacts Tryz.pinned.checked.prog 7 Tryz.f7 (Rows.OpenSpec.upto Rows.asmLinesSpec).bare Rows.asmLinesUptoRow = true := by
  simp only [joinedFacts, Bool.and_eq_true]
  repeat' apply And.intro
  all_goals decide +kernel
theorem AsmLinesUpto_said : Rows.AsmLinesUptoSaid :=
  OpenClaim.holds_of_cond 7 Tryz.f7 rfl rfl rfl rfl rfl rfl rfl ⟨rfl, rfl, rfl, rfl, rfl⟩ rfl rfl rfl rfl rfl (by kernel_rfl) Tryz.func7 AsmLinesUpto_closed
    (of_decide_eq_true (by kernel_rfl)) (by unfold Func.isWrapper; first | (rw [if_pos (by decide +kernel)]; kernel_rfl) | (rw [if_neg (by decide +kernel)]; exact ⟨rfl, rfl⟩))
    (fun os started H enc _ F => by rw [OpenClaim.pre_eq_preRow]; exact AsmLinesUpto_lifted os started H enc F)
theorem AsmLinesUpto_plain (f : FuncId) (fn : Func) (hf : Tryz.pinned.checked.prog.funcNamed Tryz.f7.name = some f) (hfn : Tryz.pinned.checked.prog.funcs[f]? = some fn) :
    true = Tryz.pinned.checked.prog.looks [] ∧ ∀ (j : Nat) t, fn.params[j]? = some t → Tryz.pinned.checked.prog.wantsStandIn t = false := by
  obtain rfl : f = 7 := Option.some.inj ((show Tryz.prog.funcNamed Tryz.f7.name = some 7 by kernel_rfl).symm.trans hf) |>.symm
  obtain rfl : fn = Tryz.f7 := (Option.some.inj (Tryz.func7.symm.trans hfn)).symm
  refine ⟨by kernel_rfl, fun j t ht => ?_⟩
  rw [Tryz.params7] at ht
  have hm : t ∈ [9, 22] := by simpa using Array.mem_of_getElem? ht
  have hall : ([9, 22].all fun u => !Tryz.prog.wantsStandIn u) = true := by kernel_rfl
  exact (show Tryz.prog.wantsStandIn t = false by simpa using List.all_eq_true.1 hall t hm)
theorem holds_AsmLinesUpto : Rows.AsmLinesUptoCardSaid :=
  Claim7.holds_tied_plain_at .later [] _ _ _ _ AsmLinesUpto_said (fun _ h => by cases h) (by kernel_rfl) (fun _ h => by cases h) asmLinesUpto_row_tie rfl ⟨rfl, rfl⟩ (by kernel_rfl) rfl AsmLinesUpto_plain (by kernel_rfl)
#print axioms holds_AsmLinesUpto
end Go.Proofs.YtglmmdpeenckbaaGreatDoor
