/-
  The law WholeText holds of every input, in every world that holds the library variables that the row lists: called with whatever arguments, it returns true, and every argument reads behind the call as it read before.
  No condition.
-/
import Derived.Test.YtglmmdpeenckbaaGreatDoorSkH0c
import Derived.Test.YtglmmdpeenckbaaGreatDoorSkH1a
import Derived.Test.YtglmmdpeenckbaaGreatDoorSkH2a
import Derived.Test.YtglmmdpeenckbaaGreatDoorSkH3a
import Derived.Test.YtglmmdpeenckbaaGreatDoorSkH4a
import Derived.Test.YtglmmdpeenckbaaGreatDoorSkH5a
import Derived.Test.YtglmmdpeenckbaaGreatDoorSkH6a
import Derived.Test.YtglmmdpeenckbaaGreatDoorSkH7a
import Derived.Test.YtglmmdpeenckbaaGreatDoorSkH9a
import Derived.Test.YtglmmdpeenckbaaGreatDoorSkH10a
import Derived.Test.YtglmmdpeenckbaaGreatDoorSkH11a
import Derived.Test.YtglmmdpeenckbaaGreatDoorSkH12a
import Derived.Test.YtglmmdpeenckbaaGreatDoorSkH13a
import Derived.Test.YtglmmdpeenckbaaGreatDoorSkH15a
import Derived.Test.YtglmmdpeenckbaaGreatDoorSkH16a
import Derived.Test.YtglmmdpeenckbaaGreatDoorSkH17a
import Derived.Test.YtglmmdpeenckbaaGreatDoorSkH20a
import Derived.Test.YtglmmdpeenckbaaGreatDoorSkH28a
import Derived.Test.YtglmmdpeenckbaaGreatDoorSkH39a
set_option linter.unusedVariables false
set_option linter.unusedSimpArgs false
namespace Go.Proofs.YtglmmdpeenckbaaGreatDoor
open Go.ChangeShapes Go.WideShapes Go.ChangeAt Go.RowKit Go.SK

set_option maxRecDepth 100000 in
theorem WholeText_contract (H : Type) (enc : TypeId × Value → H) (W : World) (base : Nat) (args : Array Value) (ds gs : List (DataW H)) (before : List MemPlace)
    (hval0 : ∀ (j : Nat) t v, Tryz.f3.params[j]? = some t → args[j]? = some v → Value.okWide Tryz.prog W .any base t v)
    (hW : DataW.Whole enc Tryz.prog Tryz.f3.params.toList Rows.wholeTextSpec.vars false W args.toList ds gs before)
    (hsz0 : (DataW.weightsEach Tryz.prog (Tryz.f3.params.toList ++ (OpenSpec.ofChange Rows.wholeTextSpec).bare.plain.varTypes Tryz.prog) (ds ++ gs)).all (· ≤ reachBytes) = true)
    (hL : laidMetH Tryz.prog Rows.wholeTextRow.laid W) :
    Calls Tryz.prog 3 args W fun e W' => ∃ v, e = .returned v ∧ Rows.wholeTextSpec.post enc Tryz.prog Tryz.f3 false true false false W args v W' := by
  have hG : LxG.holds W := lxG_of hL
  have hval : ∀ (j : Nat) t v, Tryz.f3.params[j]? = some t → args[j]? = some v → Value.okWide Tryz.prog W .any base t v := hval0
  have hW' := hW
  obtain ⟨p, q, hA0, hV, rfl, hfz, hnd⟩ := hW
  have hA : DataW.TrodAll enc Tryz.prog W 0 (fun _ => true) true Tryz.f3.params.toList args.toList ds p := hA0
  rw [Tryz.params3] at hA hval
  have hlt := zrD _ _ _ _ hA
  obtain ⟨v0, vs0, d0, ds0, p0, q0, hargs, rfl, hp0, h0, r0⟩ := trodAll_cons hA
  obtain ⟨e1, e2, e3⟩ := trodAll_nil r0
  obtain rfl : args = #[v0] := by cases args; simp_all
  obtain ⟨rfl, rfl⟩ := trodVars_none hV
  subst e2
  have hsz : (DataW.weightsEach Tryz.prog [9] [d0]).all (· ≤ reachBytes) = true := by
    have hsz1 := hsz0
    rw [Tryz.params3] at hsz1
    exact hsz1
  obtain ⟨x0, rfl, hd0, b0⟩ := open_str Tryz.underlying9 (hval 0 9 v0 rfl rfl) h0
  have hl0 : x0.length ≤ 140737488355328 := str_sized hsz (j := 0) (t := 9) rfl (by rw [← hd0]; rfl)
  refine (Ret.law (zuQ x0 W hG hl0)).mono fun e W' ⟨he, bel⟩ => ?_
  subst he
  exact ⟨_, rfl, _, _, _, [], _, [], hW', trodAll_mk1 (shut_bool Tryz.underlying4 _), zlZ lx_out bel _ _ _ _ (by kernel_rfl) hA hlt, rfl, bel.frame _, fun h => by cases h⟩

theorem WholeText_reads (os : Os) {H : Type} (enc : TypeId × Value → H) : ∃ places, DataW.whole enc Tryz.prog ((World.doorLaid Tryz.prog 400 os).forCall (fun _ _ => 0) ⟨#[], #[.string ⟨#[]⟩], []⟩).memory Tryz.f3.params.toList Rows.wholeTextSpec.vars false (#[.string ⟨#[]⟩] : Array Value).toList 8 = some ([.lit (.string [])], [], places) :=
  ⟨[], by kernel_rfl⟩
set_option maxRecDepth 100000 in
theorem WholeText_lifted (os : Os) (started : os.Started) (H : Type) (enc : TypeId × Value → H) (F : Stop.Interp) :
    ReturnsInHanded {} Tryz.checked os 3 .any ((OpenSpec.ofChange Rows.wholeTextSpec).preRow enc Tryz.prog Tryz.f3 Rows.wholeTextRow.domain false Rows.wholeTextRow.laid) (((OpenSpec.ofChange Rows.wholeTextSpec).at F).post enc Tryz.prog Tryz.f3 false true false false) := by
  obtain ⟨places, hx⟩ := WholeText_reads os enc
  refine returnsInHanded_of_row (C := Tryz.checked) (s := OpenSpec.ofChange Rows.wholeTextSpec) lx_own started (by kernel_rfl) Tryz.func3
    (witness_row_atRef (enc := enc) (C := Tryz.checked) false (World.doorLaid Tryz.prog 400 os) #[.string ⟨#[]⟩] rfl (by kernel_rfl) (by kernel_rfl) (by kernel_rfl)
      (OpenSpec.preRow_of_cond 8 hx (by kernel_rfl) (fun k hk => by cases hk) (by kernel_rfl) (lx_door os _))) ?_
  intro W base args ds gs before hval hW _ _ hsz hL _ _
  exact WholeText_contract H enc W base args ds gs before hval hW hsz hL
set_option maxHeartbeats 40000000 in
set_option maxRecDepth 100000 in
theorem WholeText_closed : joinedFacts Tryz.pinned.checked.prog 3 Tryz.f3 (OpenSpec.ofChange Rows.wholeTextSpec).bare Rows.wholeTextRow = true := by
  simp only [joinedFacts, Bool.and_eq_true]
  repeat' apply And.intro
  all_goals decide +kernel
theorem WholeText_said : Rows.WholeTextSaid :=
  OpenClaim.holds_of_cond 3 Tryz.f3 rfl rfl rfl rfl rfl rfl rfl ⟨rfl, rfl, rfl, rfl, rfl⟩ rfl rfl rfl rfl rfl (by kernel_rfl) Tryz.func3 WholeText_closed
    (of_decide_eq_true (by kernel_rfl)) (by unfold Func.isWrapper; first | (rw [if_pos (by decide +kernel)]; kernel_rfl) | (rw [if_neg (by decide +kernel)]; exact ⟨rfl, rfl⟩))
    (fun os started H enc _ F => by rw [OpenClaim.pre_eq_preRow]; exact WholeText_lifted os started H enc F)
theorem WholeText_plain (f : FuncId) (fn : Func) (hf : Tryz.pinned.checked.prog.funcNamed Tryz.f3.name = some f) (hfn : Tryz.pinned.checked.prog.funcs[f]? = some fn) :
    true = Tryz.pinned.checked.prog.looks [] ∧ ∀ (j : Nat) t, fn.params[j]? = some t → Tryz.pinned.checked.prog.wantsStandIn t = false := by
  obtain rfl : f = 3 := Option.some.inj ((show Tryz.prog.funcNamed Tryz.f3.name = some 3 by kernel_rfl).symm.trans hf) |>.symm
  obtain rfl : fn = Tryz.f3 := (Option.some.inj (Tryz.func3.symm.trans hfn)).symm
  refine ⟨by kernel_rfl, fun j t ht => ?_⟩
  rw [Tryz.params3] at ht
  have hm : t ∈ [9] := by simpa using Array.mem_of_getElem? ht
  have hall : ([9].all fun u => !Tryz.prog.wantsStandIn u) = true := by kernel_rfl
  exact (show Tryz.prog.wantsStandIn t = false by simpa using List.all_eq_true.1 hall t hm)
theorem holds_WholeText : Rows.WholeTextCardSaid :=
  Claim7.holds_tied_plain_at .later [] _ _ _ _ WholeText_said (fun _ h => by cases h) (by kernel_rfl) (fun _ h => by cases h) wholeText_row_tie rfl ⟨rfl, rfl⟩ (by kernel_rfl) rfl WholeText_plain (by kernel_rfl)
#print axioms holds_WholeText
end Go.Proofs.YtglmmdpeenckbaaGreatDoor
