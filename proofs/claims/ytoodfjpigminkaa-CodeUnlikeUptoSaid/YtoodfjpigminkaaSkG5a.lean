/-
  Steps of functions, plain law, and walks of functions: what the laws rest on.
-/
import Derived.Test.YtoodfjpigminkaaSkG0d
import Derived.Test.YtoodfjpigminkaaSkG2a
set_option linter.unusedVariables false
set_option linter.unusedSimpArgs false
set_option linter.unusedSectionVars false
namespace Go.SK
theorem byteAt_j (l : List Int) (n : Nat) : byteAt l n = byteU (l.getD (n / 4) 0) (n % 4) := rfl
end Go.SK
namespace Go.SK
open Go.RowKit Go.ChangeShapes Go.WideShapes Go.ChangeAt
theorem idE_zero {n bound : Int} : idE n bound = 0 ↔ ¬ (n = 0 ∨ n ≥ bound) := by unfold idE; split <;> simp_all
end Go.SK
namespace Go.SK
theorem getD_appL {α : Type} {l m : List α} {i : Nat} {d : α} (h : i < l.length) : (l ++ m).getD i d = l.getD i d := by
  simp [List.getD, List.getElem?_append_left h]
theorem getD_appR {α : Type} {l m : List α} {i : Nat} {d : α} (h : l.length ≤ i) : (l ++ m).getD i d = m.getD (i - l.length) d := by
  simp [List.getD, List.getElem?_append_right h]
theorem joinW_app (l m : List Int) : joinW (l ++ m) = joinW l ++ joinW m := by
  refine list_ext_getD2 0 (by simp [joinW_len]; omega) fun k hk => ?_
  rw [joinW_len, List.length_append] at hk
  rw [joinW_get (by rw [List.length_append]; exact hk)]
  by_cases h : k < 4 * l.length
  · rw [getD_appL (by rw [joinW_len]; exact h), joinW_get h, byteAt_j, byteAt_j, getD_appL (by omega)]
  · rw [getD_appR (by rw [joinW_len]; omega), joinW_len, joinW_get (by omega), byteAt_j, byteAt_j, getD_appR (by omega), show (k - 4 * l.length) / 4 = k / 4 - l.length by omega, show (k - 4 * l.length) % 4 = k % 4 by omega]
theorem padded_get {s : List UInt8} {r : Nat} : (padded s).getD r 0 = if r < s.length then s.getD r 0 else 0 := by
  unfold padded cpG
  rw [List.take_length]
  split
  · rename_i h; rw [getD_appL h]
  · rename_i h; rw [getD_appR (by omega)]; simp [List.getD, List.getElem?_replicate]; split <;> rfl
theorem idH_of {must : Bool} {n b e : Int} (h1 : must = true → n ≠ 0 ∧ n < b) (h2 : must = false → n = 0) : idH must n b e = 0 := by
  unfold idH
  cases must with
  | true =>
    have := h1 rfl
    rw [if_neg (fun hx => hx (by rw [decide_eq_true this.1])), if_neg (by simp; omega)]
  | false =>
    have := h2 rfl
    rw [if_neg (fun hx => hx (by simp [this])), if_neg (by simp)]
end Go.SK
