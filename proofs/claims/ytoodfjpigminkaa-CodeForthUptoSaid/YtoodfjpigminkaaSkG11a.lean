/-
  Steps of functions, plain law, and walks of functions: what the laws rest on.
-/
import Derived.Test.YtoodfjpigminkaaSkG0d
import Derived.Test.YtoodfjpigminkaaSkG1a
import Derived.Test.YtoodfjpigminkaaSkG3a
import Derived.Test.YtoodfjpigminkaaSkG4a
import Derived.Test.YtoodfjpigminkaaSkG7a
set_option linter.unusedVariables false
set_option linter.unusedSimpArgs false
set_option linter.unusedSectionVars false
namespace Go.SK
structure InstL.Okay (i : InstL) : Prop where
  op : 0 ≤ i.op ∧ i.op < 65536
  ty : 0 ≤ i.ty ∧ i.ty < 4294967296
  res : 0 ≤ i.res ∧ i.res < 4294967296
  args : ∀ a ∈ i.args, (0 ≤ a.n ∧ a.n < 4294967296) ∧ 0 ≤ a.kind ∧ a.kind < 256
end Go.SK
namespace Go.SK
open Go.RowKit Go.ChangeShapes Go.WideShapes Go.ChangeAt
structure BulkOk {H : Type} (f : DataW H → Nat) (fa : List (DataW H) → Nat) : Prop where
  str : ∀ b, b.length + 1 ≤ f (.lit (.string b))
  one : ∀ d, 1 ≤ f d
  agg : ∀ l, fa l + 1 ≤ f (.agg l)
  slice : ∀ l sp, fa l + 1 ≤ f (.slice l sp)
  cons : ∀ d r, fa (d :: r) = f d + fa r
section
variable {H : Type} {f : DataW H → Nat} {fa : List (DataW H) → Nat}
theorem bulk_sum (h : BulkOk f fa) {α : Type} {r : α → DataW H → Prop} {g : α → Nat} (hg : ∀ a y, r a y → g a ≤ f y) : ∀ (l : List α) (elems : List (DataW H)), elems.length = l.length → (∀ (i : Nat) (a : α) (y : DataW H), l[i]? = some a → elems[i]? = some y → r a y) → (l.map g).sum ≤ fa elems
  | [], elems, _, _ => Nat.zero_le _
  | a :: l, [], hl, _ => by simp at hl
  | a :: l, y :: elems, hl, hr => by
    have h1 := hg a y (hr 0 a y rfl rfl)
    have h2 := bulk_sum h hg l elems (by simpa using hl) (fun i b z hb hz => hr (i + 1) b z (by simpa using hb) (by simpa using hz))
    rw [h.cons, List.map_cons, List.sum_cons]
    omega
theorem bulk_rel (h : BulkOk f fa) {α : Type} {r : α → DataW H → Prop} {g : α → Nat} (hg : ∀ a y, r a y → g a ≤ f y) {l : List α} {d : DataW H} (hr : relL r l d) : (l.map g).sum ≤ f d := by
  rcases hr with ⟨rfl, rfl⟩ | ⟨elems, sp, rfl, hl, hr⟩
  · exact Nat.zero_le _
  · have := bulk_sum h hg l elems hl hr
    have := h.slice elems sp
    omega
theorem sum_mem {α : Type} {g : α → Nat} {l : List α} {a : α} (h : a ∈ l) : g a ≤ (l.map g).sum := by
  induction l with
  | nil => cases h
  | cons x l ih =>
    simp only [List.map_cons, List.sum_cons]
    cases h with
    | head => omega
    | tail _ h => have := ih h; omega
theorem bulk_arg (h : BulkOk f fa) : ∀ (a : ArgP) (y : DataW H), relA a y → argRoom a ≤ f y ∧ a.s.length ≤ f y := fun a y hr => by
  obtain rfl := hr
  have h1 := h.agg [.lit (.int .u8 a.kind), .lit (.int .u32 a.n), .lit (.string a.s)]
  rw [h.cons, h.cons, h.cons] at h1
  have h2 := h.str a.s
  have h3 := h.one (.lit (.int .u8 a.kind))
  unfold argRoom
  constructor
  · split <;> omega
  · omega
theorem bulk_inst0 (h : BulkOk f fa) : ∀ (i : InstP) (d : DataW H), relI i d → (i.args.map argRoom).sum ≤ f d ∧ (i.args.map fun a => a.s.length).sum ≤ f d := fun i d hr => by
  obtain ⟨da, rfl, hra⟩ := hr
  have h1 := bulk_rel h (fun a y hy => (bulk_arg h a y hy).1) hra
  have h2 := bulk_rel h (g := fun a : ArgP => a.s.length) (fun a y hy => (bulk_arg h a y hy).2) hra
  have h3 := h.agg [.lit (.int .u16 i.op), .lit (.int .u32 i.ty), .lit (.int .u32 i.res), da]
  rw [h.cons, h.cons, h.cons, h.cons] at h3
  omega
end
theorem good_okay {w : World} {i : InstP} (h : i.good w) : i.L.Okay := by
  obtain ⟨h1, h2, h3, h4, _⟩ := h
  refine ⟨⟨h1.1, by show i.op < _; omega⟩, ⟨h2.1, by show i.ty < _; omega⟩, ⟨h3.1, by show i.res < _; omega⟩, fun a ha => ?_⟩
  have := h4 a ha
  obtain ⟨g1, g2⟩ := this
  exact ⟨⟨g2.1, by omega⟩, g1.1, by omega⟩
end Go.SK
