/-
  The length of arguments.
-/
import Derived.Test.YtnbapjkldjhjoaaSkQ
import Derived.SizedLaws
set_option linter.unusedVariables false
set_option linter.unusedSimpArgs false
namespace Go.SK
open Go.RowKit Go.ChangeShapes Go.WideShapes Go.ChangeAt
/-! arguments that are slices: their length -/
theorem slice_cells {P : Program} {w : World} {r : Reach} {base : Nat} {t e : TypeId} {v : Value} (h : Value.okWide P w r base t v) (hu : P.underlying t = some (.slice e)) : v.cells.toList = [v] := by
  simp only [Value.okWide, hu, Cell.okWide, Cell.ok] at h
  cases v <;> first | rfl | (simp at h)
theorem len_sized {H : Type} {P : Program} {ts : List TypeId} {ds : List (DataW H)} (hs : (DataW.weightsEach P ts ds).all (· ≤ reachBytes) = true) {j b n : Nat} {t e : TypeId} {d : DataW H} {R : List (DataW H) → Prop} {z : Prop} (ht : ts[j]? = some t) (hd : ds[j]? = some d) (hu : P.underlying t = some (.slice e)) (hb : P.bytesOf e = b)
    (hn : n = 0 ∨ ∃ elems sp, d = .slice elems sp ∧ elems.length = n ∧ R elems) : n * b ≤ 140737488355328 := by
  rcases hn with rfl | ⟨elems, sp, rfl, rfl, _⟩
  · simp
  · have h1 := sized_slice hs ht hd hu
    have h2 := reachBytes_lt
    rw [hb] at h1
    have h3 : elems.length * b ≤ (elems.length + sp.length) * b := Nat.mul_le_mul_right _ (by omega)
    omega
theorem str_sized {H : Type} {P : Program} {ts : List TypeId} {ds : List (DataW H)} (hs : (DataW.weightsEach P ts ds).all (· ≤ reachBytes) = true) {j : Nat} {t : TypeId} {l : List UInt8} (ht : ts[j]? = some t) (hd : ds[j]? = some (.lit (.string l))) : l.length ≤ 140737488355328 := by
  have h1 := sized_string hs ht hd
  have h2 := reachBytes_lt
  omega
end Go.SK
