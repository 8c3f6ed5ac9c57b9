/-
  Steps of functions, plain law, and walks of functions: what the laws rest on.
-/
import Derived.Test.YtalnjboddfedjaaDoorSkG0b
import Derived.Test.YtalnjboddfedjaaDoorSkG1a
import Derived.Test.YtalnjboddfedjaaDoorSkG3a
import Derived.Test.YtalnjboddfedjaaDoorSkG4a
import Derived.Test.YtalnjboddfedjaaDoorSkG6a
import Derived.Test.YtalnjboddfedjaaDoorSkG10a
import Derived.Test.YtalnjboddfedjaaDoorSkG11a
set_option linter.unusedVariables false
set_option linter.unusedSimpArgs false
set_option linter.unusedSectionVars false
namespace Go.SK
theorem toks_bad : ∀ (n : Nat) (s : Tx) (k : Nat), s.length ≤ n → ¬ (toksN n s k).2.1 = 0 → (toksN n s k).1 = [] ∧ (k : Int) ≤ (toksN n s k).2.2 ∧ (toksN n s k).2.2 < k + s.length ∧ ((toksN n s k).2.1 = 60 ∨ (toksN n s k).2.1 = 61 ∨ (toksN n s k).2.1 = 62)
  | 0, s, k, _, h => absurd rfl h
  | n + 1, s, k, hn, h => by
    rw [toksN] at h ⊢
    split
    · rename_i h0; rw [if_pos h0] at h; exact absurd rfl h
    · rename_i h0
      rw [if_neg h0] at h
      have h0' : 0 < s.length := by rcases Nat.eq_zero_or_pos s.length with h | h; exact absurd (.inl h) h0; exact h
      split
      · rename_i hb; rw [if_pos hb] at h
        have := toks_bad n (s.drop 1) (k + 1) (by rw [List.length_drop]; omega) h
        rw [List.length_drop] at this
        exact ⟨this.1, by omega, by omega, this.2.2.2⟩
      · rename_i hb; rw [if_neg hb] at h
        cases hp : tokF s with
        | error e =>
          rw [hp] at h
          have he := tokF_err hp
          exact ⟨rfl, Int.le_refl _, by dsimp only; omega, by dsimp only; omega⟩
        | ok q =>
          obtain ⟨kd, t, m⟩ := q
          rw [hp] at h
          dsimp only at h ⊢
          have hm := tokF_len (kd := kd) (t := t) (m := m) h0' hp
          split
          · rename_i h3; rw [if_pos h3] at h; exact absurd rfl h
          · rename_i h3
            have := toks_bad n (s.drop m) (k + m) (by rw [List.length_drop]; omega) h3
            rw [List.length_drop] at this
            exact ⟨rfl, by dsimp only; omega, by dsimp only; omega, this.2.2.2⟩
end Go.SK
namespace Go.SK
theorem toksF_bad (s : Tx) (h : ¬ (toksF s).2.1 = 0) : (toksF s).1 = [] ∧ 0 ≤ (toksF s).2.2 ∧ (toksF s).2.2 < s.length ∧ ((toksF s).2.1 = 60 ∨ (toksF s).2.1 = 61 ∨ (toksF s).2.1 = 62) := by
  have h1 := toks_bad _ s 0 (Nat.le_refl _) h
  exact ⟨h1.1, h1.2.1, by have := h1.2.2.1; rw [show ((0 : Nat) : Int) + (s.length : Int) = s.length by omega] at this; exact this, h1.2.2.2⟩
end Go.SK
namespace Go.SK
open Go Go.Proofs
theorem fld25_1 : FldF Tryd.prog 25 1 1 := FldF.of (n := 0) (by kernel_rfl)
end Go.SK
