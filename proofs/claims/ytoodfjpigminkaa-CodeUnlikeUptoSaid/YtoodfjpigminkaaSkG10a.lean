/-
  Steps of functions, plain law, and walks of functions: what the laws rest on.
-/
import Derived.Test.YtoodfjpigminkaaSkG0d
import Derived.Test.YtoodfjpigminkaaSkG2a
import Derived.Test.YtoodfjpigminkaaSkG5a
set_option linter.unusedVariables false
set_option linter.unusedSimpArgs false
set_option linter.unusedSectionVars false
namespace Go.SK
theorem bytes_zero {x : Int} (h0 : 0 ≤ x) (h1 : x < 4294967296) : ∀ {t : Nat}, t < 4 → (∀ u, t ≤ u → u < 4 → ((byteU x u).toNat : Int) = 0) → x / 256 ^ t = 0 := fun {t} ht h => by
  have e : ∀ u, t ≤ u → u < 4 → (x / 256 ^ u) % 256 = 0 := fun u h2 h3 => by rw [← byteU_nat]; exact h u h2 h3
  have p1 : (256 : Int) ^ 1 = 256 := rfl
  have p2 : (256 : Int) ^ 2 = 65536 := rfl
  have p3 : (256 : Int) ^ 3 = 16777216 := rfl
  have p0 : (256 : Int) ^ 0 = 1 := rfl
  match t, ht, e with
  | 0, _, e =>
    have e0 := e 0 (by omega) (by omega); have e1 := e 1 (by omega) (by omega); have e2 := e 2 (by omega) (by omega); have e3 := e 3 (by omega) (by omega)
    rw [p0] at *; rw [p1] at e1; rw [p2] at e2; rw [p3] at e3; omega
  | 1, _, e =>
    have e1 := e 1 (by omega) (by omega); have e2 := e 2 (by omega) (by omega); have e3 := e 3 (by omega) (by omega)
    rw [p1] at *; rw [p2] at e2; rw [p3] at e3; omega
  | 2, _, e =>
    have e2 := e 2 (by omega) (by omega); have e3 := e 3 (by omega) (by omega)
    rw [p2] at *; rw [p3] at e3; omega
  | 3, _, e =>
    have e3 := e 3 (by omega) (by omega)
    rw [p3] at *; omega
theorem textF_ok2 {l : List Int} {n : Nat} (hw : Wd l) (hn : n < 4 * l.length) (hz : ((byteAt l n).toNat : Int) = 0) (h : ∀ q, q < n → (joinW l).getD q 0 ≠ 0) (hall : ∀ r, n < r → r < 4 * (n / 4) + 4 → ((byteAt l r).toNat : Int) = 0) : textF l = ((joinW l).take n, ((n / 4 + 1 : Nat) : Int), 0) := by
  have := textF_ok (l := l) (j := n / 4) (t := n % 4) (by omega) (by omega) (by rw [← byteAt_j]; exact hz) (by rw [show 4 * (n / 4) + n % 4 = n by omega]; exact h) (bytes_zero (hw.get _).1 (hw.get _).2 (by omega) fun u h1 h2 => by
    by_cases e : u = n % 4
    · rw [e, ← byteAt_j]; exact hz
    · have := hall (4 * (n / 4) + u) (by omega) (by omega)
      rwa [byteAt4 _ _ _ h2] at this)
  rwa [show 4 * (n / 4) + n % 4 = n by omega] at this
end Go.SK
namespace Go.SK
section
variable {fm : FormL} {bound : Int} {l : List Int}
theorem A1.more {a m : Nat} {ags : List ArgP} {c : Int} {x : ArgP} (h : A1 fm l bound a 0 ags) (hc : letterS fm (ags.length : Int) = c) (hgo : l.length - a > 0 ∨ ags.length < fm.fixed.length) (hE : argE c (l.drop a) bound = (x, m, 0)) : A1 fm l bound (a + m) 0 (ags ++ [x]) ∧ 1 ≤ m ∧ a + m ≤ l.length := by
  have hok := argE_ok (c := c) (ws := l.drop a) (b := bound) (by rw [hE])
  have hl := h.1
  rw [hE, List.length_drop] at hok
  dsimp only at hok
  refine ⟨?_, hok.1, by omega⟩
  have := h.step (a2 := a + m) (ags2 := ags ++ [x]) hc hgo (fun _ => by rw [hE]; exact ⟨rfl, rfl⟩) (by omega) (by simp) (.inl (by omega))
  rw [hE] at this
  exact this
end
end Go.SK
