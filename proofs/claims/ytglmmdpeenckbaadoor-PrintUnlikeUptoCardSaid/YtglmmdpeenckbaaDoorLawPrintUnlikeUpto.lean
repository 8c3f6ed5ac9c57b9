/-
  The law PrintUnlike holds of every input whose bulk is small (the bound of the Rows text), in every world that holds the library variables that the row lists: called with such arguments, it returns true, and every argument reads behind the call as it read before.
  The condition is the bound alone.
-/
import Derived.Test.YtglmmdpeenckbaaDoorSkU0d
set_option linter.unusedVariables false
set_option linter.unusedSimpArgs false
namespace Go.Proofs.YtglmmdpeenckbaaDoor
open Go.ChangeShapes Go.WideShapes Go.ChangeAt Go.RowKit Go.SK

theorem PrintUnlikeUpto_one {H : Type} (d : DataW H) : 1 ≤ Rows.uptoBulk d := by
  cases d with
  | lit l => cases l <;> simp [Rows.uptoBulk]
  | nil => simp [Rows.uptoBulk]
  | ptr d => simp [Rows.uptoBulk]
  | slice elems spare => simp [Rows.uptoBulk]
  | agg parts => simp [Rows.uptoBulk]
  | iface t d => simp [Rows.uptoBulk]
  | map entries => simp [Rows.uptoBulk]
  | held h => simp [Rows.uptoBulk]
theorem PrintUnlikeUpto_len {H : Type} (l : List (DataW H)) : l.length ≤ Rows.uptoBulkAll l := by
  induction l with
  | nil => simp [Rows.uptoBulkAll]
  | cons x r ih => have := PrintUnlikeUpto_one x; simp only [Rows.uptoBulkAll, List.length_cons]; omega
theorem PrintUnlikeUpto_sl {H : Type} (elems spare : List (DataW H)) : elems.length ≤ Rows.uptoBulk (.slice elems spare) ∧ Rows.uptoBulkAll elems ≤ Rows.uptoBulk (.slice elems spare) := by
  have h1 := PrintUnlikeUpto_len elems
  simp only [Rows.uptoBulk]
  omega
theorem PrintUnlikeUpto_str {H : Type} (bytes : List UInt8) : bytes.length ≤ Rows.uptoBulk (DataW.lit (H := H) (.string bytes)) := by
  simp only [Rows.uptoBulk]
  omega

theorem PrintUnlikeUpto_bulk {H : Type} : BulkOk (H := H) Rows.uptoBulk Rows.uptoBulkAll := ⟨fun b => by simp only [Rows.uptoBulk]; omega, PrintUnlikeUpto_one, fun l => by simp only [Rows.uptoBulk]; omega, fun l sp => by simp only [Rows.uptoBulk]; omega, fun d r => by simp only [Rows.uptoBulkAll]⟩
def printUnlike_ty : MdTys Tryd.prog 33 67 102 := ⟨_, _, _, _, _, _, _, _, _, _, Tryd.underlying33, Tryd.underlying67, Tryd.underlying102, ⟨rfl, by kernel_rfl, Tryd.underlying22⟩, ⟨rfl, by kernel_rfl, Tryd.underlying22⟩, ⟨rfl, by kernel_rfl, Tryd.underlying31⟩, ⟨rfl, by kernel_rfl, Tryd.underlying64⟩, ⟨rfl, by kernel_rfl, Tryd.underlying22⟩, ⟨rfl, by kernel_rfl, Tryd.underlying22⟩, ⟨rfl, by kernel_rfl, Tryd.underlying65⟩, ⟨rfl, by kernel_rfl, Tryd.underlying5⟩, ⟨rfl, by kernel_rfl, Tryd.underlying22⟩, ⟨rfl, by kernel_rfl, Tryd.underlying9⟩, by kernel_rfl, by kernel_rfl, by kernel_rfl, by kernel_rfl, by kernel_rfl⟩
set_option maxRecDepth 100000 in
theorem PrintUnlikeUpto_contract (H : Type) (enc : TypeId × Value → H) (W : World) (base : Nat) (args : Array Value) (ds gs : List (DataW H)) (before : List MemPlace)
    (hval0 : ∀ (j : Nat) t v, Tryd.f4.params[j]? = some t → args[j]? = some v → Value.okWide Tryd.prog W .any base t v)
    (hW : DataW.Whole enc Tryd.prog Tryd.f4.params.toList Rows.printUnlikeSpec.vars false W args.toList ds gs before)
    (hk : Rows.uptoSmall H (ds ++ gs) = true)
    (hL : laidMetH Tryd.prog Rows.printUnlikeUptoRow.laid W) :
    Calls Tryd.prog 4 args W fun e W' => ∃ v, e = .returned v ∧ Rows.printUnlikeSpec.post enc Tryd.prog Tryd.f4 false true false false W args v W' := by
  have hG : LxG.holds W := lxG_of hL
  have hval : ∀ (j : Nat) t v, Tryd.f4.params[j]? = some t → args[j]? = some v → Value.okWide Tryd.prog W .any base t v := hval0
  have hW' := hW
  obtain ⟨p, q, hA0, hV, rfl, hfz, hnd⟩ := hW
  have hA : DataW.TrodAll enc Tryd.prog W 0 (fun _ => true) true Tryd.f4.params.toList args.toList ds p := hA0
  rw [Tryd.params4] at hA hval
  have hlt := zlf _ _ _ _ hA
  obtain ⟨v0, vs0, d0, ds0, p0, q0, hargs, rfl, hp0, h0, r0⟩ := trodAll_cons hA
  obtain ⟨v1, vs1, d1, ds1, p1, q1, hargs1, rfl, hp1, h1, r1⟩ := trodAll_cons r0
  obtain ⟨e1, e2, e3⟩ := trodAll_nil r1
  obtain rfl : args = #[v0, v1] := by cases args; simp_all
  obtain ⟨rfl, rfl⟩ := trodVars_none hV
  subst e2
  have hkb : Rows.uptoBulkAll [d0, d1] ≤ 1048576 := of_decide_eq_true (by simpa only [Rows.uptoSmall, List.append_nil] using hk)
  simp only [Rows.uptoBulkAll] at hkb
  obtain ⟨ga0, ba0, ao0, cp0, x0, rfl, bg0, bb0, gd0, hR0, dr0⟩ := open_mod printUnlike_ty h0 (by obtain ⟨cs, rfl, _⟩ := agg_cells (ts := [22, 22, 31]) (hval 0 33 v0 rfl rfl) Tryd.underlying33 rfl (by kernel_rfl) (by kernel_rfl); exact ⟨cs, rfl⟩)
  have hk0 := bulk_mod PrintUnlikeUpto_bulk dr0 (show Rows.uptoBulk d0 ≤ 1048576 by omega)
  obtain ⟨ga1, ba1, ao1, cp1, x1, rfl, bg1, bb1, gd1, hR1, dr1⟩ := open_mod printUnlike_ty h1 (by obtain ⟨cs, rfl, _⟩ := agg_cells (ts := [22, 22, 31]) (hval 1 33 v1 rfl rfl) Tryd.underlying33 rfl (by kernel_rfl) (by kernel_rfl); exact ⟨cs, rfl⟩)
  have hk1 := bulk_mod PrintUnlikeUpto_bulk dr1 (show Rows.uptoBulk d1 ≤ 1048576 by omega)
  refine (Ret.law (zl6 ga0 ba0 x0 ao0 cp0 ga1 ba1 x1 ao1 cp1 W hG hR0 hR1 (zq5 hk0 gd0) (fun y hy => InstL.Okay.u32 (good_okay (gd0 y hy))) (by omega) (by omega) (zq5 hk1 gd1) (fun y hy => InstL.Okay.u32 (good_okay (gd1 y hy))) (by omega) (by omega))).mono fun e W' ⟨he, bel⟩ => ?_
  subst he
  exact ⟨_, rfl, _, _, _, [], _, [], hW', trodAll_mk1 (shut_bool Tryd.underlying4 _), zhc lx_out bel _ _ _ _ (by kernel_rfl) hA hlt, rfl, bel.frame _, fun h => by cases h⟩

theorem PrintUnlikeUpto_reads (os : Os) {H : Type} (enc : TypeId × Value → H) : ∃ places, DataW.whole enc Tryd.prog ((World.doorLaid Tryd.prog 400 os).forCall (fun _ _ => 0) ⟨#[], #[.agg #[.int .u32 0, .int .u32 0, .slice none 0 0], .agg #[.int .u32 0, .int .u32 0, .slice none 0 0]], []⟩).memory Tryd.f4.params.toList Rows.printUnlikeSpec.vars false (#[.agg #[.int .u32 0, .int .u32 0, .slice none 0 0], .agg #[.int .u32 0, .int .u32 0, .slice none 0 0]] : Array Value).toList 8 = some ([.agg [.lit (.int .u32 0), .lit (.int .u32 0), .nil], .agg [.lit (.int .u32 0), .lit (.int .u32 0), .nil]], [], places) :=
  ⟨[], by kernel_rfl⟩
set_option maxRecDepth 100000 in
theorem PrintUnlikeUpto_lifted (os : Os) (started : os.Started) (H : Type) (enc : TypeId × Value → H) (F : Stop.Interp) :
    ReturnsInHanded {} Tryd.checked os 4 .any ((Rows.OpenSpec.upto Rows.printUnlikeSpec).preRow enc Tryd.prog Tryd.f4 Rows.printUnlikeUptoRow.domain false Rows.printUnlikeUptoRow.laid) (((Rows.OpenSpec.upto Rows.printUnlikeSpec).at F).post enc Tryd.prog Tryd.f4 false true false false) := by
  obtain ⟨places, hx⟩ := PrintUnlikeUpto_reads os enc
  refine returnsInHanded_of_row (C := Tryd.checked) (s := Rows.OpenSpec.upto Rows.printUnlikeSpec) lx_own started (by kernel_rfl) Tryd.func4
    (witness_row_atRef (enc := enc) (C := Tryd.checked) false (World.doorLaid Tryd.prog 400 os) #[.agg #[.int .u32 0, .int .u32 0, .slice none 0 0], .agg #[.int .u32 0, .int .u32 0, .slice none 0 0]] rfl (by kernel_rfl) (by kernel_rfl) (by kernel_rfl)
      (OpenSpec.preRow_of_cond 8 hx (by kernel_rfl) (fun k hk => by cases hk; kernel_rfl) (by kernel_rfl) (lx_door os _))) ?_
  intro W base args ds gs before hval hW _ hcond _ hL _ _
  exact PrintUnlikeUpto_contract H enc W base args ds gs before hval hW (hcond _ rfl) hL
set_option maxHeartbeats 40000000 in
set_option maxRecDepth 100000 in
theorem PrintUnlikeUpto_closed : joinedFacts Tryd.pinned.checked.prog 4 Tryd.f4 (Rows.OpenSpec.upto Rows.printUnlikeSpec).bare Rows.printUnlikeUptoRow = true := by
  simp only [joinedFacts, Bool.and_eq_true]
  repeat' apply And.intro
  all_goals decide +kernel
theorem PrintUnlikeUpto_said : Rows.PrintUnlikeUptoSaid :=
  OpenClaim.holds_of_cond 4 Tryd.f4 rfl rfl rfl rfl rfl rfl rfl ⟨rfl, rfl, rfl, rfl, rfl⟩ rfl rfl rfl rfl rfl (by kernel_rfl) Tryd.func4 PrintUnlikeUpto_closed
    (of_decide_eq_true (by kernel_rfl)) (by unfold Func.isWrapper; first | (rw [if_pos (by decide +kernel)]; kernel_rfl) | (rw [if_neg (by decide +kernel)]; exact ⟨rfl, rfl⟩))
    (fun os started H enc _ F => by rw [OpenClaim.pre_eq_preRow]; exact PrintUnlikeUpto_lifted os started H enc F)
theorem PrintUnlikeUpto_plain (f : FuncId) (fn : Func) (hf : Tryd.pinned.checked.prog.funcNamed Tryd.f4.name = some f) (hfn : Tryd.pinned.checked.prog.funcs[f]? = some fn) :
    true = Tryd.pinned.checked.prog.looks [] ∧ ∀ (j : Nat) t, fn.params[j]? = some t → Tryd.pinned.checked.prog.wantsStandIn t = false := by
  obtain rfl : f = 4 := Option.some.inj ((show Tryd.prog.funcNamed Tryd.f4.name = some 4 by kernel_rfl).symm.trans hf) |>.symm
  obtain rfl : fn = Tryd.f4 := (Option.some.inj (Tryd.func4.symm.trans hfn)).symm
  refine ⟨by kernel_rfl, fun j t ht => ?_⟩
  rw [Tryd.params4] at ht
  have hm : t ∈ [33, 33] := by simpa using Array.mem_of_getElem? ht
  have hall : ([33, 33].all fun u => !Tryd.prog.wantsStandIn u) = true := by kernel_rfl
  exact (show Tryd.prog.wantsStandIn t = false by simpa using List.all_eq_true.1 hall t hm)
theorem holds_PrintUnlikeUpto : Rows.PrintUnlikeUptoCardSaid :=
  Claim7.holds_tied_plain_at .later [] _ _ _ _ PrintUnlikeUpto_said (fun _ h => by cases h) (by kernel_rfl) (fun _ h => by cases h) printUnlikeUpto_row_tie rfl ⟨rfl, rfl⟩ (by kernel_rfl) rfl PrintUnlikeUpto_plain (by kernel_rfl)
#print axioms holds_PrintUnlikeUpto
end Go.Proofs.YtglmmdpeenckbaaDoor
