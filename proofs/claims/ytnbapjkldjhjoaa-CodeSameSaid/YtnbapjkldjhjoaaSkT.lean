/-
  Slices that are only read, without their address.
-/
import Derived.Test.YtnbapjkldjhjoaaSkR
set_option linter.unusedVariables false
set_option linter.unusedSimpArgs false
namespace Go.SK
open Go.RowKit
/-! places in slices that are only read, whatever their address -/
def Rb : Option Addr → Nat
  | some a => a.block
  | none => 0
def Ro : Option Addr → Nat
  | some a => a.off
  | none => 0
section
variable {ao : Option Addr} {n es : Nat} {xs : List Value} {w : World}
theorem Res.rs_all2 (h : (Res.rs ao n es xs).holds w) : Cells w (Rb ao) (Ro ao) xs := by
  rcases h.2 with h0 | ⟨b, o, rfl, hc⟩
  · have : xs = [] := List.length_eq_zero_iff.1 (by rw [h.1, h0]; simp)
    subst this
    intro i v hi; simp at hi
  · exact hc
theorem Res.rs2_cell {k : Nat} {v : Value} (h : (Res.rs ao n es xs).holds w) (hv : xs[0 + k]? = some v) : w.cell? ⟨Rb ao, Ro ao + k, none⟩ = some v := by
  rw [Nat.zero_add] at hv; exact Res.rs_all2 h k v hv
theorem Res.rs2_cellF {k f : Nat} {v : Value} (h : (Res.rs ao n es xs).holds w) (hv : xs[0 + k + f]? = some v) : w.cell? ⟨Rb ao, Ro ao + k + f, none⟩ = some v := by
  rw [Nat.zero_add] at hv
  have := Res.rs_all2 h (k + f) v hv
  rwa [← Nat.add_assoc] at this
theorem Res.rs2_cells {k m : Nat} (h : (Res.rs ao n es xs).holds w) (vs : List Value) (hv : (xs.drop (0 + k)).take m = vs) : Cells w (Rb ao) (Ro ao + k) vs := by
  subst hv
  intro i v hi
  rw [List.getElem?_take] at hi
  split at hi
  · rw [List.getElem?_drop, Nat.zero_add] at hi
    have := Res.rs_all2 h _ _ hi
    rwa [← Nat.add_assoc] at this
  · simp at hi
end
section
variable {P : Program} {ty : TypeId} {ρ : Operand → Value} {w : World} {C : Value → World → Prop} {T e : TypeId} {de : TypeDesc} {sz bytes es eb : Nat} {zs ez xs : List Value} {ao : Option Addr} {n c : Nat}
theorem Op1.indexRs {x y : Operand} {k : IntKind} {i : Int} (hT : TyF P T (.slice e) sz bytes zs) (he : TyF P e de es eb ez) (hr : (Res.rs ao n es xs).holds w)
    (hx : ρ x = .slice ao n c) (hy : ρ y = .int k i) (h0 : 0 ≤ i) (h1 : i < n) (h : C (.pointer (some ⟨Rb ao, Ro ao + i.toNat * es, none⟩)) w) : Op1 P (.indexAddr T x y) ty ρ w C := by
  obtain ⟨b, o, rfl⟩ := Res.rs_some hr (by omega)
  exact Op1.indexSl hT he hx hy h0 h1 h
end
end Go.SK
