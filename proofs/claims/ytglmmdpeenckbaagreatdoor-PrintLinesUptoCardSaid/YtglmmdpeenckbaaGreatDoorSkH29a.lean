/-
  Steps of functions, plain law, and walks of functions: what the laws rest on.
-/
import Derived.Test.YtglmmdpeenckbaaGreatDoorSkH0c
import Derived.Test.YtglmmdpeenckbaaGreatDoorSkH1a
import Derived.Test.YtglmmdpeenckbaaGreatDoorSkH2a
import Derived.Test.YtglmmdpeenckbaaGreatDoorSkH5a
import Derived.Test.YtglmmdpeenckbaaGreatDoorSkH8a
import Derived.Test.YtglmmdpeenckbaaGreatDoorSkH14a
import Derived.Test.YtglmmdpeenckbaaGreatDoorSkH18a
import Derived.Test.YtglmmdpeenckbaaGreatDoorSkH21a
set_option linter.unusedVariables false
set_option linter.unusedSimpArgs false
set_option linter.unusedSectionVars false
namespace Go.SK
open Go.RowKit Go.ChangeShapes Go.WideShapes Go.ChangeAt
theorem cell_int {P : Program} {w : World} {r : Reach} {base : Nat} {u : TypeId} {v : Value} {k : IntKind} (h : Cell.okWide P w r base u v) (hu : P.underlying u = some (.int k)) : ∃ n, v = .int k n ∧ k.has n := by
  simp only [Cell.okWide, hu] at h
  cases v <;> simp [Cell.ok, hu] at h
  obtain ⟨rfl, h⟩ := h
  exact ⟨_, rfl, h⟩
theorem val_cell {P : Program} {w : World} {r : Reach} {base : Nat} {u : TypeId} {v : Value} {d : TypeDesc} (h : Value.okWide P w r base u v) (hu : P.underlying u = some d) (hd : zsp d = false) : Cell.okWide P w r base u v := by
  simp only [Value.okWide, hu] at h
  cases d <;> simp [zsp] at hd <;> exact h
theorem has_u32 {n : Int} (h : IntKind.u32.has n) : 0 ≤ n ∧ n ≤ 4294967295 := by
  simpa [IntKind.has, IntKind.min, IntKind.max, IntKind.signed, IntKind.bits] using h
end Go.SK
namespace Go.SK
open Go.RowKit Go.ChangeShapes Go.WideShapes Go.ChangeAt
section
variable {H : Type} {enc : TypeId × Value → H} {P : Program} {w : World} {base : Nat} {spare : Nat → Bool} {held : Bool} {M I A : TypeId}
theorem open_inst (T : MdTys P M I A) {v : Value} {d : DataW H} {p : List MemPlace} (h : DataW.Trod enc P w base spare held I v d p) (hv : ∃ cs : List Value, v = .agg cs.toArray) :
    ∃ (op ty res : Int) (ao : Option Addr) (cap : Nat) (l : List ArgP), v = .agg #[.int .u16 op, .int .u32 ty, .int .u32 res, .slice ao l.length cap] ∧ InstP.good w ⟨op, ty, res, ao, cap, l⟩ ∧ zxC ⟨op, ty, res, ao, cap, l⟩ d := by
  obtain ⟨fuel, h⟩ := h
  obtain ⟨cs, rfl⟩ := hv
  replace h : DataW.trod enc P w base spare held fuel I cs = some (d, p) := h
  obtain ⟨i, rfl, hg, hr⟩ := zls T fuel cs (d, p) h
  exact ⟨i.op, i.ty, i.res, i.ao, i.cap, i.args, rfl, hg, hr⟩
end
section
variable {H : Type} {f : DataW H → Nat} {fa : List (DataW H) → Nat}
theorem bulk_inst (h : BulkOk f fa) {i : InstP} {d : DataW H} (hr : zxC i d) (hk : f d ≤ 1048576) : i.Tiny := by
  have h1 := ziN h i d hr
  exact ⟨by omega, fun a ha => by have := zmc (g := fun a : ArgP => a.s.length) ha; omega⟩
end
end Go.SK
