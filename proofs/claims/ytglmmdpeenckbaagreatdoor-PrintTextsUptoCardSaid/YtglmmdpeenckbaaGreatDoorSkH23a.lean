/-
  Steps of functions, plain law, and walks of functions: what the laws rest on.
-/
import Derived.Test.YtglmmdpeenckbaaGreatDoorSkH0c
import Derived.Test.YtglmmdpeenckbaaGreatDoorSkH1a
import Derived.Test.YtglmmdpeenckbaaGreatDoorSkH2a
import Derived.Test.YtglmmdpeenckbaaGreatDoorSkH5a
import Derived.Test.YtglmmdpeenckbaaGreatDoorSkH8a
import Derived.Test.YtglmmdpeenckbaaGreatDoorSkH13a
import Derived.Test.YtglmmdpeenckbaaGreatDoorSkH14a
set_option linter.unusedVariables false
set_option linter.unusedSimpArgs false
set_option linter.unusedSectionVars false
namespace Go.SK
open Go.RowKit Go.ChangeShapes Go.WideShapes Go.ChangeAt
section
variable {H : Type} {enc : TypeId × Value → H} {P : Program} {w : World} {base : Nat} {spare : Nat → Bool} {held : Bool} {M I A : TypeId}
theorem open_mod (T : MdTys P M I A) {v : Value} {d : DataW H} {p : List MemPlace} (h : DataW.Trod enc P w base spare held M v d p) (hv : ∃ cs : List Value, v = .agg cs.toArray) :
    ∃ (ga ba : Int) (ao : Option Addr) (cap : Nat) (l : List InstP), v = .agg #[.int .u32 ga, .int .u32 ba, .slice ao l.length cap] ∧ (0 ≤ ga ∧ ga ≤ 4294967295) ∧ (0 ≤ ba ∧ ba ≤ 4294967295) ∧ (∀ i ∈ l, i.good w) ∧ (Res.rmod ao l).holds w ∧
      ∃ dm, d = .agg [.lit (.int .u32 ga), .lit (.int .u32 ba), dm] ∧ relL zxC l dm := by
  obtain ⟨fuel, h⟩ := h
  obtain ⟨cs, rfl⟩ := hv
  replace h : DataW.trod enc P w base spare held fuel M cs = some (d, p) := h
  obtain ⟨y0, y1, y2, n, hy, hl, h0, h1, h2⟩ := ziT T.hM h
  rw [T.cM] at hl
  obtain ⟨c0, c1, c2, rfl⟩ := list3 hl
  rw [T.fm0.1, T.fm0.2.1] at h0
  rw [T.fm1.1, T.fm1.2.1] at h1
  rw [T.fm2.1, T.fm2.2.1] at h2
  obtain ⟨ga, e0, rfl, w0⟩ := DataW.trod_int T.fm0.2.2 h0
  obtain ⟨ba, e1, rfl, w1⟩ := DataW.trod_int T.fm1.2.2 h1
  simp only [List.drop_zero, List.drop_succ_cons, List.take_succ_cons, List.take_zero, List.cons.injEq, and_true] at e0 e1 h2
  subst e0; subst e1
  obtain ⟨ao, cap, l, rfl, hb, hg, hR, hr⟩ := znG (g := zdu) (good := InstP.good w) (rel := zxC) (es := 4) T.fm2.2.2 T.cI (by decide) zcG (zls T) (v := c2) (d := y2.1) (p := y2.2) ⟨n, (by rw [zhM T.fm2.2.2 h2]; exact h2)⟩ (zhM T.fm2.2.2 h2)
  refine ⟨ga, ba, ao, cap, l, rfl, znb w0, znb w1, hg, fun r hr => ?_, y2.1, hy, hr⟩
  cases hr with
  | head => exact hR
  | tail _ hr =>
    obtain ⟨i, hi, rfl⟩ := List.mem_map.1 hr
    exact (hg i hi).2.2.2.2
end
end Go.SK
namespace Go.SK
open Go.RowKit Go.ChangeShapes Go.WideShapes Go.ChangeAt
section
variable {H : Type} {f : DataW H → Nat} {fa : List (DataW H) → Nat}
theorem zxz {α : Type} (l : List α) : (l.map fun _ => 1).sum = l.length := by
  induction l with
  | nil => rfl
  | cons x l ih => simp only [List.map_cons, List.sum_cons, List.length_cons, ih]; omega
theorem bulk_mod (h : BulkOk f fa) {ga ba : Int} {l : List InstP} {d : DataW H} (hr : ∃ dm, d = .agg [.lit (.int .u32 ga), .lit (.int .u32 ba), dm] ∧ relL zxC l dm) (hk : f d ≤ 1048576) : l.length ≤ 1048576 ∧ ∀ i ∈ l, i.Tiny := by
  obtain ⟨dm, rfl, hr⟩ := hr
  have h0 := h.agg [.lit (.int .u32 ga), .lit (.int .u32 ba), dm]
  rw [h.cons, h.cons, h.cons] at h0
  have h1 := zii h (g := fun _ : InstP => 1) (fun i y _ => h.one y) hr
  have h2 := zii h (g := fun i : InstP => (i.args.map za1).sum) (fun i y hy => (ziN h i y hy).1) hr
  have h3 := zii h (g := fun i : InstP => (i.args.map fun a => a.s.length).sum) (fun i y hy => (ziN h i y hy).2) hr
  rw [zxz] at h1
  refine ⟨by omega, fun i hi => ⟨?_, fun a ha => ?_⟩⟩
  · have := zmc (g := fun i : InstP => (i.args.map za1).sum) hi; omega
  · have := zmc (g := fun i : InstP => (i.args.map fun a => a.s.length).sum) hi
    have := zmc (g := fun a : ArgP => a.s.length) ha
    omega
end
theorem zyg {w : World} {l : List InstP} (h : l.length ≤ 1048576 ∧ ∀ i ∈ l, i.Tiny) (hg : ∀ i ∈ l, i.good w) : Small l :=
  ⟨by omega, fun i hi => (hg i hi).1.1, fun i hi => by have := (hg i hi).1.2; omega, fun i hi => by have := (h.2 i hi).sum; omega, fun i hi a ha => by have := (h.2 i hi).txt a ha; omega⟩
end Go.SK
namespace Go.SK
open Go.RowKit
theorem mapU {l : List InstP} (hu : ∀ x ∈ l, x.L.U32) : ∀ y ∈ l.map InstP.L, y.U32 := fun y hy => by obtain ⟨x, hx, rfl⟩ := List.mem_map.1 hy; exact hu x hx
end Go.SK
