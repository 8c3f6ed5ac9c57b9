/-
  The law AsmReads holds of every input whose bulk is small (the Y of the Rows text), in every world that holds the library variables that the row lists: called with such arguments, it returns true, and every argument reads behind the call as it read before.
  The condition is the Y alone.
-/
import Derived.Test.YtglmmdpeenckbaaGreatDoorSkV0e
import Derived.Test.YtglmmdpeenckbaaGreatDoorSkV1a
set_option linter.unusedVariables false
set_option linter.unusedSimpArgs false
namespace Go.Proofs.YtglmmdpeenckbaaGreatDoor
open Go.ChangeShapes Go.WideShapes Go.ChangeAt Go.RowKit Go.SK

theorem AsmReadsUpto_one {H : Type} (d : DataW H) : 1 ≤ Rows.uptoBulk d := by
  cases d with
  | lit l => cases l <;> simp [Rows.uptoBulk]
  | nil => simp [Rows.uptoBulk]
  | ptr d => simp [Rows.uptoBulk]
  | slice elems spare => simp [Rows.uptoBulk]
  | agg parts => simp [Rows.uptoBulk]
  | iface t d => simp [Rows.uptoBulk]
  | map entries => simp [Rows.uptoBulk]
  | held h => simp [Rows.uptoBulk]
theorem AsmReadsUpto_len {H : Type} (l : List (DataW H)) : l.length ≤ Rows.uptoBulkAll l := by
  induction l with
  | nil => simp [Rows.uptoBulkAll]
  | cons x r ih => have := AsmReadsUpto_one x; simp only [Rows.uptoBulkAll, List.length_cons]; omega
theorem AsmReadsUpto_sl {H : Type} (elems spare : List (DataW H)) : elems.length ≤ Rows.uptoBulk (.slice elems spare) ∧ Rows.uptoBulkAll elems ≤ Rows.uptoBulk (.slice elems spare) := by
  have h1 := AsmReadsUpto_len elems
  simp only [Rows.uptoBulk]
  omega
theorem AsmReadsUpto_str {H : Type} (bytes : List UInt8) : bytes.length ≤ Rows.uptoBulk (DataW.lit (H := H) (.string bytes)) := by
  simp only [Rows.uptoBulk]
  omega

theorem AsmReadsUpto_bulk {H : Type} : BulkOk (H := H) Rows.uptoBulk Rows.uptoBulkAll := ⟨fun b => by simp only [Rows.uptoBulk]; omega, AsmReadsUpto_one, fun l => by simp only [Rows.uptoBulk]; omega, fun l sp => by simp only [Rows.uptoBulk]; omega, fun d r => by simp only [Rows.uptoBulkAll]⟩
def asmReads_ty : MdTys Tryz.prog 25 44 110 := ⟨_, _, _, _, _, _, _, _, _, _, Tryz.underlying25, Tryz.underlying44, Tryz.underlying110, ⟨rfl, by kernel_rfl, Tryz.underlying22⟩, ⟨rfl, by kernel_rfl, Tryz.underlying22⟩, ⟨rfl, by kernel_rfl, Tryz.underlying23⟩, ⟨rfl, by kernel_rfl, Tryz.underlying41⟩, ⟨rfl, by kernel_rfl, Tryz.underlying22⟩, ⟨rfl, by kernel_rfl, Tryz.underlying22⟩, ⟨rfl, by kernel_rfl, Tryz.underlying42⟩, ⟨rfl, by kernel_rfl, Tryz.underlying5⟩, ⟨rfl, by kernel_rfl, Tryz.underlying22⟩, ⟨rfl, by kernel_rfl, Tryz.underlying9⟩, by kernel_rfl, by kernel_rfl, by kernel_rfl, by kernel_rfl, by kernel_rfl⟩
set_option maxRecDepth 100000 in
theorem AsmReadsUpto_contract (H : Type) (enc : TypeId × Value → H) (W : World) (base : Nat) (args : Array Value) (ds gs : List (DataW H)) (before : List MemPlace)
    (hval0 : ∀ (j : Nat) t v, Tryz.f11.params[j]? = some t → args[j]? = some v → Value.okWide Tryz.prog W .any base t v)
    (hW : DataW.Whole enc Tryz.prog Tryz.f11.params.toList Rows.asmReadsSpec.vars false W args.toList ds gs before)
    (hk : Rows.uptoSmall H (ds ++ gs) = true)
    (hL : laidMetH Tryz.prog Rows.asmReadsUptoRow.laid W) :
    Calls Tryz.prog 11 args W fun e W' => ∃ v, e = .returned v ∧ Rows.asmReadsSpec.post enc Tryz.prog Tryz.f11 false true false false W args v W' := by
  have hG : LxG.holds W := lxG_of hL
  have hval : ∀ (j : Nat) t v, Tryz.f11.params[j]? = some t → args[j]? = some v → Value.okWide Tryz.prog W .any base t v := hval0
  have hW' := hW
  obtain ⟨p, q, hA0, hV, rfl, hfz, hnd⟩ := hW
  have hA : DataW.TrodAll enc Tryz.prog W 0 (fun _ => true) true Tryz.f11.params.toList args.toList ds p := hA0
  rw [Tryz.params11] at hA hval
  have hlt := znj _ _ _ _ hA
  obtain ⟨v0, vs0, d0, ds0, p0, q0, hargs, rfl, hp0, h0, r0⟩ := trodAll_cons hA
  obtain ⟨v1, vs1, d1, ds1, p1, q1, hargs1, rfl, hp1, h1, r1⟩ := trodAll_cons r0
  obtain ⟨e1, e2, e3⟩ := trodAll_nil r1
  obtain rfl : args = #[v0, v1] := by cases args; simp_all
  obtain ⟨rfl, rfl⟩ := trodVars_none hV
  subst e2
  have hkb : Rows.uptoBulkAll [d0, d1] ≤ 1048576 := of_decide_eq_true (by simpa only [Rows.uptoSmall, List.append_nil] using hk)
  simp only [Rows.uptoBulkAll] at hkb
  obtain ⟨ga0, ba0, ao0, cp0, x0, rfl, bg0, bb0, gd0, hR0, dr0⟩ := open_mod asmReads_ty h0 (by obtain ⟨cs, rfl, _⟩ := agg_cells (ts := [22, 22, 23]) (hval 0 25 v0 rfl rfl) Tryz.underlying25 rfl (by kernel_rfl) (by kernel_rfl); exact ⟨cs, rfl⟩)
  have hk0 := bulk_mod AsmReadsUpto_bulk dr0 (show Rows.uptoBulk d0 ≤ 1048576 by omega)
  have hs1 := ztk (hval 1 38 v1 rfl rfl) Tryz.underlying38
  obtain ⟨ao1, cp1, x1, rfl, bm1, bg1, hR1, dr1⟩ := zj3 (g := byC) (good := fun _ => True) (rel := fun _ _ => True) (es := 1) Tryz.underlying38 (by kernel_rfl) (by decide) zjw (open_by Tryz.underlying5) h1 hs1
  refine (Ret.law (zqW ga0 ba0 x0 ao0 cp0 x1 ao1 cp1 W hG hR0 hR1 (zt9 hk0 gd0) (fun y hy => InstL.Okay.u32 (good_okay (gd0 y hy))) (by omega) (by omega) (by rcases dr1 with ⟨_, h⟩ | ⟨elems, sp, h, he, _⟩; { rw [h]; exact Nat.zero_le _ }; { have h2 := (AsmReadsUpto_sl elems sp).1; rw [← h] at h2; omega }))).mono fun e W' ⟨he, bel⟩ => ?_
  subst he
  exact ⟨_, rfl, _, _, _, [], _, [], hW', trodAll_mk1 (shut_bool Tryz.underlying4 _), ziV lx_out bel _ _ _ _ (by kernel_rfl) hA hlt, rfl, bel.frame _, fun h => by cases h⟩

theorem AsmReadsUpto_reads (os : Os) {H : Type} (enc : TypeId × Value → H) : ∃ places, DataW.whole enc Tryz.prog ((World.doorLaid Tryz.prog 400 os).forCall (fun _ _ => 0) ⟨#[], #[.agg #[.int .u32 0, .int .u32 0, .slice none 0 0], .slice none 0 0], []⟩).memory Tryz.f11.params.toList Rows.asmReadsSpec.vars false (#[.agg #[.int .u32 0, .int .u32 0, .slice none 0 0], .slice none 0 0] : Array Value).toList 8 = some ([.agg [.lit (.int .u32 0), .lit (.int .u32 0), .nil], .nil], [], places) :=
  ⟨[], by kernel_rfl⟩
set_option maxRecDepth 100000 in
theorem AsmReadsUpto_lifted (os : Os) (started : os.Started) (H : Type) (enc : TypeId × Value → H) (F : Stop.Interp) :
    ReturnsInHanded {} Tryz.checked os 11 .any ((Rows.OpenSpec.upto Rows.asmReadsSpec).preRow enc Tryz.prog Tryz.f11 Rows.asmReadsUptoRow.domain false Rows.asmReadsUptoRow.laid) (((Rows.OpenSpec.upto Rows.asmReadsSpec).at F).post enc Tryz.prog Tryz.f11 false true false false) := by
  obtain ⟨places, hx⟩ := AsmReadsUpto_reads os enc
  refine returnsInHanded_of_row (C := Tryz.checked) (s := Rows.OpenSpec.upto Rows.asmReadsSpec) lx_own started (by kernel_rfl) Tryz.func11
    (witness_row_atRef (enc := enc) (C := Tryz.checked) false (World.doorLaid Tryz.prog 400 os) #[.agg #[.int .u32 0, .int .u32 0, .slice none 0 0], .slice none 0 0] rfl (by kernel_rfl) (by kernel_rfl) (by kernel_rfl)
      (OpenSpec.preRow_of_cond 8 hx (by kernel_rfl) (fun k hk => by cases hk; kernel_rfl) (by kernel_rfl) (lx_door os _))) ?_
  intro W base args ds gs before hval hW _ hcond _ hL _ _
  exact AsmReadsUpto_contract H enc W base args ds gs before hval hW (hcond _ rfl) hL
set_option maxHeartbeats 40000000 in
set_option maxRecDepth 100000 in
theorem AsmReadsUpto_closed : joinedFacts Tryz.pinned.checked.prog 11 Tryz.f11 (Rows.OpenSpec.upto Rows.asmReadsSpec).bare Rows.asmReadsUptoRow = true := by
  simp only [joinedFacts, Bool.and_eq_true]
  repeat' apply And.intro
  all_goals decide +kernel
theorem AsmReadsUpto_said : Rows.AsmReadsUptoSaid :=
  OpenClaim.holds_of_cond 11 Tryz.f11 rfl rfl rfl rfl rfl rfl rfl ⟨rfl, rfl, rfl, rfl, rfl⟩ rfl rfl rfl rfl rfl (by kernel_rfl) Tryz.func11 AsmReadsUpto_closed
    (of_decide_eq_true (by kernel_rfl)) (by unfold Func.isWrapper; first | (rw [if_pos (by decide +kernel)]; kernel_rfl) | (rw [if_neg (by decide +kernel)]; exact ⟨rfl, rfl⟩))
    (fun os started H enc _ F => by rw [OpenClaim.pre_eq_preRow]; exact AsmReadsUpto_lifted os started H enc F)
theorem AsmReadsUpto_plain (f : FuncId) (fn : Func) (hf : Tryz.pinned.checked.prog.funcNamed Tryz.f11.name = some f) (hfn : Tryz.pinned.checked.prog.funcs[f]? = some fn) :
    true = Tryz.pinned.checked.prog.looks [] ∧ ∀ (j : Nat) t, fn.params[j]? = some t → Tryz.pinned.checked.prog.wantsStandIn t = false := by
  obtain rfl : f = 11 := Option.some.inj ((show Tryz.prog.funcNamed Tryz.f11.name = some 11 by kernel_rfl).symm.trans hf) |>.symm
  obtain rfl : fn = Tryz.f11 := (Option.some.inj (Tryz.func11.symm.trans hfn)).symm
  refine ⟨by kernel_rfl, fun j t ht => ?_⟩
  rw [Tryz.params11] at ht
  have hm : t ∈ [25, 38] := by simpa using Array.mem_of_getElem? ht
  have hall : ([25, 38].all fun u => !Tryz.prog.wantsStandIn u) = true := by kernel_rfl
  exact (show Tryz.prog.wantsStandIn t = false by simpa using List.all_eq_true.1 hall t hm)
theorem holds_AsmReadsUpto : Rows.AsmReadsUptoCardSaid :=
  Claim7.holds_tied_plain_at .later [] _ _ _ _ AsmReadsUpto_said (fun _ h => by cases h) (by kernel_rfl) (fun _ h => by cases h) asmReadsUpto_row_tie rfl ⟨rfl, rfl⟩ (by kernel_rfl) rfl AsmReadsUpto_plain (by kernel_rfl)
#print axioms holds_AsmReadsUpto
end Go.Proofs.YtglmmdpeenckbaaGreatDoor
