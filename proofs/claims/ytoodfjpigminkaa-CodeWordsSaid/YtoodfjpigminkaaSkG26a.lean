/-
  Steps of functions, plain law, and walks of functions: what the laws rest on.
-/
import Derived.Test.YtoodfjpigminkaaSkG0d
import Derived.Test.YtoodfjpigminkaaSkG4a
import Derived.Test.YtoodfjpigminkaaSkG12a
set_option linter.unusedVariables false
set_option linter.unusedSimpArgs false
set_option linter.unusedSectionVars false
namespace Go.SK
open Go.RowKit Go.ChangeShapes Go.WideShapes Go.ChangeAt
section
variable {H : Type} {P : Program} {M I A : TypeId}
theorem weightsAll_mem {e : TypeId} {n : Nat} : ∀ {ds : List (DataW H)} {d : DataW H}, d ∈ ds → n ∈ d.weights P e → n ∈ DataW.weightsAll P e ds
  | d0 :: ds, d, h, hn => by
    simp only [DataW.weightsAll, List.mem_append]
    cases h with
    | head => exact .inl hn
    | tail _ h => exact .inr (weightsAll_mem h hn)
theorem rel_len {t e : TypeId} {α : Type} {r : α → DataW H → Prop} {l : List α} {d : DataW H} {B : Nat} (hu : P.underlying t = some (.slice e)) (h : relL r l d) (hs : ∀ n ∈ d.weights P t, n ≤ B) : l.length * P.bytesOf e ≤ B ∧ ∀ a ∈ l, ∃ y, r a y ∧ ∀ n ∈ y.weights P e, n ≤ B := by
  rcases h with ⟨rfl, rfl⟩ | ⟨elems, sp, rfl, hl, hr⟩
  · exact ⟨by simp, fun a h => by cases h⟩
  · simp only [DataW.weights, hu] at hs
    refine ⟨?_, fun a ha => ?_⟩
    · have := hs _ (.head _)
      rw [← hl]
      exact Nat.le_trans (Nat.mul_le_mul_right _ (Nat.le_add_right _ _)) this
    · obtain ⟨i, hi⟩ := List.getElem?_of_mem ha
      have hlt : i < elems.length := by rw [hl]; exact (List.getElem?_eq_some_iff.1 hi).1
      refine ⟨elems[i], hr i a _ hi (List.getElem?_eq_getElem hlt), fun n hn => hs n (.tail _ (List.mem_append_left _ (weightsAll_mem (List.getElem_mem hlt) hn)))⟩
end
end Go.SK
namespace Go.SK
open Go.RowKit Go.ChangeShapes Go.WideShapes Go.ChangeAt
section
variable {H : Type} {P : Program} {M I A : TypeId}
theorem weights_reach {ts : List TypeId} {ds : List (DataW H)} (hs : (DataW.weightsEach P ts ds).all (· ≤ reachBytes) = true) {j : Nat} {t : TypeId} {d : DataW H} (ht : ts[j]? = some t) (hd : ds[j]? = some d) : ∀ n ∈ d.weights P t, n ≤ 140737488355328 := fun n hn => by
  have := List.all_eq_true.1 hs _ (DataW.weights_mem_each ht hd n hn)
  have h2 := reachBytes_lt
  have h3 : n ≤ reachBytes := by simpa using this
  omega
end
end Go.SK
