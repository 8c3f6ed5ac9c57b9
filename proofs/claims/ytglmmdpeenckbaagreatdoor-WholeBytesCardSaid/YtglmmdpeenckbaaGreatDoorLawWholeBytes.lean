/-
  The law WholeBytes holds of every input, in every world that holds the library variables that the row lists: called with whatever arguments, it returns true, and every argument reads behind the call as it read before.
  No condition.
-/
import Derived.Test.YtglmmdpeenckbaaGreatDoorSkW0c
import Derived.Test.YtglmmdpeenckbaaGreatDoorSkW2a
import Derived.Test.YtglmmdpeenckbaaGreatDoorSkW3c
import Derived.Test.YtglmmdpeenckbaaGreatDoorSkW6a
set_option linter.unusedVariables false
set_option linter.unusedSimpArgs false
namespace Go.Proofs.YtglmmdpeenckbaaGreatDoor
open Go.ChangeShapes Go.WideShapes Go.ChangeAt Go.RowKit Go.SK

set_option maxRecDepth 100000 in
theorem WholeBytes_contract (H : Type) (enc : TypeId × Value → H) (W : World) (base : Nat) (args : Array Value) (ds gs : List (DataW H)) (before : List MemPlace)
    (hval0 : ∀ (j : Nat) t v, Tryz.f4.params[j]? = some t → args[j]? = some v → Value.okWide Tryz.prog W .any base t v)
    (hW : DataW.Whole enc Tryz.prog Tryz.f4.params.toList Rows.wholeBytesSpec.vars false W args.toList ds gs before)
    (hsz0 : (DataW.weightsEach Tryz.prog (Tryz.f4.params.toList ++ (OpenSpec.ofChange Rows.wholeBytesSpec).bare.plain.varTypes Tryz.prog) (ds ++ gs)).all (· ≤ reachBytes) = true)
    (hL : laidMetH Tryz.prog Rows.wholeBytesRow.laid W) :
    Calls Tryz.prog 4 args W fun e W' => ∃ v, e = .returned v ∧ Rows.wholeBytesSpec.post enc Tryz.prog Tryz.f4 false true false false W args v W' := by
  have hG : LxG.holds W := lxG_of hL
  have hval : ∀ (j : Nat) t v, Tryz.f4.params[j]? = some t → args[j]? = some v → Value.okWide Tryz.prog W .any base t v := hval0
  have hW' := hW
  obtain ⟨p, q, hA0, hV, rfl, hfz, hnd⟩ := hW
  have hA : DataW.TrodAll enc Tryz.prog W 0 (fun _ => true) true Tryz.f4.params.toList args.toList ds p := hA0
  rw [Tryz.params4] at hA hval
  have hlt := zq8 _ _ _ _ hA
  obtain ⟨v0, vs0, d0, ds0, p0, q0, hargs, rfl, hp0, h0, r0⟩ := trodAll_cons hA
  obtain ⟨e1, e2, e3⟩ := trodAll_nil r0
  obtain rfl : args = #[v0] := by cases args; simp_all
  obtain ⟨rfl, rfl⟩ := trodVars_none hV
  subst e2
  have hsz : (DataW.weightsEach Tryz.prog [38] [d0]).all (· ≤ reachBytes) = true := by
    have hsz1 := hsz0
    rw [Tryz.params4] at hsz1
    exact hsz1
  have hs0 := zxZ (hval 0 38 v0 rfl rfl) Tryz.underlying38
  obtain ⟨ao0, cp0, x0, rfl, bm0, bg0, hR0, dr0⟩ := zna (g := byC) (good := fun _ => True) (rel := fun _ _ => True) (es := 1) Tryz.underlying38 (by kernel_rfl) (by decide) zfm (open_by Tryz.underlying5) h0 hs0
  have hl0 := len_sized (b := 1) (n := x0.length) (z := True) hsz (j := 0) rfl rfl Tryz.underlying38 (by kernel_rfl) (dr0.imp (fun h => by rw [h.2]; rfl) id)
  refine (Ret.law (zsH x0 ao0 cp0 W hG hR0 (by omega))).mono fun e W' ⟨he, bel⟩ => ?_
  subst he
  exact ⟨_, rfl, _, _, _, [], _, [], hW', trodAll_mk1 (shut_bool Tryz.underlying4 _), zlD lx_out bel _ _ _ _ (by kernel_rfl) hA hlt, rfl, bel.frame _, fun h => by cases h⟩

theorem WholeBytes_reads (os : Os) {H : Type} (enc : TypeId × Value → H) : ∃ places, DataW.whole enc Tryz.prog ((World.doorLaid Tryz.prog 400 os).forCall (fun _ _ => 0) ⟨#[], #[.slice none 0 0], []⟩).memory Tryz.f4.params.toList Rows.wholeBytesSpec.vars false (#[.slice none 0 0] : Array Value).toList 8 = some ([.nil], [], places) :=
  ⟨[], by kernel_rfl⟩
set_option maxRecDepth 100000 in
theorem WholeBytes_lifted (os : Os) (started : os.Started) (H : Type) (enc : TypeId × Value → H) (F : Stop.Interp) :
    ReturnsInHanded {} Tryz.checked os 4 .any ((OpenSpec.ofChange Rows.wholeBytesSpec).preRow enc Tryz.prog Tryz.f4 Rows.wholeBytesRow.domain false Rows.wholeBytesRow.laid) (((OpenSpec.ofChange Rows.wholeBytesSpec).at F).post enc Tryz.prog Tryz.f4 false true false false) := by
  obtain ⟨places, hx⟩ := WholeBytes_reads os enc
  refine returnsInHanded_of_row (C := Tryz.checked) (s := OpenSpec.ofChange Rows.wholeBytesSpec) lx_own started (by kernel_rfl) Tryz.func4
    (witness_row_atRef (enc := enc) (C := Tryz.checked) false (World.doorLaid Tryz.prog 400 os) #[.slice none 0 0] rfl (by kernel_rfl) (by kernel_rfl) (by kernel_rfl)
      (OpenSpec.preRow_of_cond 8 hx (by kernel_rfl) (fun k hk => by cases hk) (by kernel_rfl) (lx_door os _))) ?_
  intro W base args ds gs before hval hW _ _ hsz hL _ _
  exact WholeBytes_contract H enc W base args ds gs before hval hW hsz hL
set_option maxHeartbeats 40000000 in
set_option maxRecDepth 100000 in
theorem WholeBytes_closed : joinedFacts Tryz.pinned.checked.prog 4 Tryz.f4 (OpenSpec.ofChange Rows.wholeBytesSpec).bare Rows.wholeBytesRow = true := by
  simp only [joinedFacts, Bool.and_eq_true]
  repeat' apply And.intro
  all_goals decide +kernel
theorem WholeBytes_said : Rows.WholeBytesSaid :=
  OpenClaim.holds_of_cond 4 Tryz.f4 rfl rfl rfl rfl rfl rfl rfl ⟨rfl, rfl, rfl, rfl, rfl⟩ rfl rfl rfl rfl rfl (by kernel_rfl) Tryz.func4 WholeBytes_closed
    (of_decide_eq_true (by kernel_rfl)) (by unfold Func.isWrapper; first | (rw [if_pos (by decide +kernel)]; kernel_rfl) | (rw [if_neg (by decide +kernel)]; exact ⟨rfl, rfl⟩))
    (fun os started H enc _ F => by rw [OpenClaim.pre_eq_preRow]; exact WholeBytes_lifted os started H enc F)
theorem WholeBytes_plain (f : FuncId) (fn : Func) (hf : Tryz.pinned.checked.prog.funcNamed Tryz.f4.name = some f) (hfn : Tryz.pinned.checked.prog.funcs[f]? = some fn) :
    true = Tryz.pinned.checked.prog.looks [] ∧ ∀ (j : Nat) t, fn.params[j]? = some t → Tryz.pinned.checked.prog.wantsStandIn t = false := by
  obtain rfl : f = 4 := Option.some.inj ((show Tryz.prog.funcNamed Tryz.f4.name = some 4 by kernel_rfl).symm.trans hf) |>.symm
  obtain rfl : fn = Tryz.f4 := (Option.some.inj (Tryz.func4.symm.trans hfn)).symm
  refine ⟨by kernel_rfl, fun j t ht => ?_⟩
  rw [Tryz.params4] at ht
  have hm : t ∈ [38] := by simpa using Array.mem_of_getElem? ht
  have hall : ([38].all fun u => !Tryz.prog.wantsStandIn u) = true := by kernel_rfl
  exact (show Tryz.prog.wantsStandIn t = false by simpa using List.all_eq_true.1 hall t hm)
theorem holds_WholeBytes : Rows.WholeBytesCardSaid :=
  Claim7.holds_tied_plain_at .later [] _ _ _ _ WholeBytes_said (fun _ h => by cases h) (by kernel_rfl) (fun _ h => by cases h) wholeBytes_row_tie rfl ⟨rfl, rfl⟩ (by kernel_rfl) rfl WholeBytes_plain (by kernel_rfl)
#print axioms holds_WholeBytes
end Go.Proofs.YtglmmdpeenckbaaGreatDoor
