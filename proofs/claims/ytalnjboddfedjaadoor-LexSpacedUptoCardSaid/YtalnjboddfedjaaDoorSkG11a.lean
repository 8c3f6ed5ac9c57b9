/-
  Steps of functions, plain law, and walks of functions: what the laws rest on.
-/
import Derived.Test.YtalnjboddfedjaaDoorSkG0b
import Derived.Test.YtalnjboddfedjaaDoorSkG1a
import Derived.Test.YtalnjboddfedjaaDoorSkG3a
import Derived.Test.YtalnjboddfedjaaDoorSkG6a
set_option linter.unusedVariables false
set_option linter.unusedSimpArgs false
set_option linter.unusedSectionVars false
namespace Go.SK
theorem toks_sz : ∀ (n : Nat) (s : Tx) (k : Nat), s.length ≤ n → wsz (toksN n s k).1 ≤ 7 * s.length ∧ (toksN n s k).1.length ≤ s.length
  | 0, s, k, _ => ⟨Nat.zero_le _, Nat.zero_le _⟩
  | n + 1, s, k, hn => by
    rw [toksN]
    split
    · exact ⟨Nat.zero_le _, Nat.zero_le _⟩
    · rename_i h0
      have h0' : 0 < s.length := by rcases Nat.eq_zero_or_pos s.length with h | h; exact absurd (.inl h) h0; exact h
      split
      · have := toks_sz n (s.drop 1) (k + 1) (by rw [List.length_drop]; omega)
        rw [List.length_drop] at this; omega
      · cases hp : tokF s with
        | error e => exact ⟨Nat.zero_le _, Nat.zero_le _⟩
        | ok q =>
          obtain ⟨kd, t, m⟩ := q
          dsimp only
          have hm := tokF_len (kd := kd) (t := t) (m := m) h0' hp
          have := toks_sz n (s.drop m) (k + m) (by rw [List.length_drop]; omega)
          rw [List.length_drop] at this
          split
          · rw [wsz, List.length_cons]; dsimp only; omega
          · exact ⟨Nat.zero_le _, Nat.zero_le _⟩
end Go.SK
namespace Go.SK
theorem toksF_len (s : Tx) : (toksF s).1.length ≤ s.length := (toks_sz _ s 0 (Nat.le_refl _)).2
end Go.SK
