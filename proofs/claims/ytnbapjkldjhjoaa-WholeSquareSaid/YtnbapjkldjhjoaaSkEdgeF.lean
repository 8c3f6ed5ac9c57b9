/-
  Walks of functions, and of the laws over them.
-/
import Derived.Test.YtnbapjkldjhjoaaSkFacts1
import Derived.Test.YtnbapjkldjhjoaaSkEdgeA
import Derived.Test.YtnbapjkldjhjoaaSkEdgeC
import Derived.Test.YtnbapjkldjhjoaaSkEdgeE
import Derived.Test.YtnbapjkldjhjoaaSkJ
set_option linter.unusedVariables false
set_option linter.unusedSimpArgs false
namespace Go.SK
open Go Go.Proofs
open Go.RowKit
theorem inZ_anti {ax ay bx by_ mx my : Int} (h1 : inZ ax ay bx by_ mx my = true) (h2 : inZ bx by_ ax ay mx my = true) : False := by
  unfold inZ at h1 h2
  have h1 := of_decide_eq_true h1; have h2 := of_decide_eq_true h2
  have e := side_flip ax ay bx by_ mx my
  unfold topZ at h1 h2
  simp only [decide_eq_true_eq] at h1 h2
  omega
theorem coversZ_edge {ax ay bx by_ cx cy x y : Int} (hs : 0 < sideZ ax ay bx by_ cx cy) (h : coversZ ax ay bx by_ cx cy x y = true) : inZ ax ay bx by_ (16 * x + 8) (16 * y + 8) = true := by
  by_cases ho : x < 0 ∨ y < 0 ∨ 1024 ≤ x ∨ 1024 ≤ y
  · rw [coversZ_out _ _ _ _ _ _ ho] at h; cases h
  · rw [coversZ_in ho (by omega), if_neg (by omega), in3] at h
    simp only [Bool.and_eq_true] at h; exact h.1.1
theorem coversZ_edgeN {ax ay bx by_ cx cy x y : Int} (hs : sideZ ax ay bx by_ cx cy < 0) (h : coversZ ax ay bx by_ cx cy x y = true) : inZ bx by_ ax ay (16 * x + 8) (16 * y + 8) = true := by
  by_cases ho : x < 0 ∨ y < 0 ∨ 1024 ≤ x ∨ 1024 ≤ y
  · rw [coversZ_out _ _ _ _ _ _ ho] at h; cases h
  · rw [coversZ_in ho (by omega), if_pos (by omega), in3] at h
    simp only [Bool.and_eq_true] at h; exact h.2
theorem shared_not {ax ay bx by_ cx cy dx dy x y : Int} (hs : (sideZ ax ay bx by_ cx cy < 0 ∧ 0 < sideZ ax ay bx by_ dx dy) ∨ (0 < sideZ ax ay bx by_ cx cy ∧ sideZ ax ay bx by_ dx dy < 0))
    (h1 : coversZ ax ay bx by_ cx cy x y = true) (h2 : coversZ bx by_ ax ay dx dy x y = true) : False := by
  have e := side_flip ax ay bx by_ dx dy
  rcases hs with ⟨h3, h4⟩ | ⟨h3, h4⟩
  · exact inZ_anti (coversZ_edgeN h3 h1) (coversZ_edgeN (by omega) h2)
  · exact inZ_anti (coversZ_edge h3 h1) (coversZ_edge (by omega) h2)
theorem mul_pos_of {a b : Int} (h : 0 < a * b) (ha : 0 < a) : 0 < b := by
  by_cases hb : 0 < b
  · exact hb
  · exact absurd (Int.mul_nonpos_of_nonneg_of_nonpos (a := a) (b := b) (by omega) (by omega)) (by omega)
theorem mul_neg_of {a b : Int} (h : 0 < a * b) (ha : a < 0) : b < 0 := by
  have := mul_pos_of (a := -a) (b := -b) (by rw [Int.neg_mul_neg]; exact h) (by omega)
  omega
theorem on_id1 (ax ay bx by_ cx cy mx my : Int) (h : sideZ ax ay bx by_ mx my = 0) : (bx - ax) * sideZ bx by_ cx cy mx my = (bx - mx) * sideZ ax ay bx by_ cx cy := by unfold sideZ at *; grind
theorem on_id2 (ax ay bx by_ cx cy mx my : Int) (h : sideZ ax ay bx by_ mx my = 0) : (bx - ax) * sideZ cx cy ax ay mx my = (mx - ax) * sideZ ax ay bx by_ cx cy := by unfold sideZ at *; grind
theorem on_id3 (ax ay bx by_ cx cy mx my : Int) (h : sideZ ax ay bx by_ mx my = 0) : (by_ - ay) * sideZ bx by_ cx cy mx my = (by_ - my) * sideZ ax ay bx by_ cx cy := by unfold sideZ at *; grind
theorem on_id4 (ax ay bx by_ cx cy mx my : Int) (h : sideZ ax ay bx by_ mx my = 0) : (by_ - ay) * sideZ cx cy ax ay mx my = (my - ay) * sideZ ax ay bx by_ cx cy := by unfold sideZ at *; grind
/-- the ends of an edge, and a point on it that is neither -/
def OnE (ax ay bx by_ mx my : Int) : Prop := sideZ ax ay bx by_ mx my = 0 ∧ ((ax ≤ mx ∧ mx ≤ bx) ∨ (bx ≤ mx ∧ mx ≤ ax)) ∧ ((ay ≤ my ∧ my ≤ by_) ∨ (by_ ≤ my ∧ my ≤ ay)) ∧ ¬ (mx = ax ∧ my = ay) ∧ ¬ (mx = bx ∧ my = by_)
theorem on_sides {ax ay bx by_ cx cy mx my : Int} (h : OnE ax ay bx by_ mx my) (hs : 0 < sideZ ax ay bx by_ cx cy) : 0 < sideZ bx by_ cx cy mx my ∧ 0 < sideZ cx cy ax ay mx my := by
  obtain ⟨h0, hx, hy, na, nb⟩ := h
  have i1 := on_id1 ax ay bx by_ cx cy mx my h0
  have i2 := on_id2 ax ay bx by_ cx cy mx my h0
  have i3 := on_id3 ax ay bx by_ cx cy mx my h0
  have i4 := on_id4 ax ay bx by_ cx cy mx my h0
  have h0' := h0
  unfold sideZ at h0'
  generalize sideZ ax ay bx by_ cx cy = s at *
  generalize sideZ bx by_ cx cy mx my = u at *
  generalize sideZ cx cy ax ay mx my = v at *
  rcases Int.lt_trichotomy ax bx with hab | hab | hab
  · have m1 : ax ≠ mx := fun e => by
      subst e
      have : (bx - ax) * (my - ay) = 0 := by simpa using h0'
      rcases Int.mul_eq_zero.1 this with h | h <;> omega
    have m2 : bx ≠ mx := fun e => by
      subst e
      have : (bx - ax) * (my - by_) = 0 := by grind
      rcases Int.mul_eq_zero.1 this with h | h <;> omega
    exact ⟨mul_pos_of (a := bx - ax) (by rw [i1]; exact Int.mul_pos (by omega) hs) (by omega), mul_pos_of (a := bx - ax) (by rw [i2]; exact Int.mul_pos (by omega) hs) (by omega)⟩
  · have hmx : mx = ax := by omega
    rcases Int.lt_trichotomy ay by_ with hb | hb | hb
    · exact ⟨mul_pos_of (a := by_ - ay) (by rw [i3]; exact Int.mul_pos (by omega) hs) (by omega), mul_pos_of (a := by_ - ay) (by rw [i4]; exact Int.mul_pos (by omega) hs) (by omega)⟩
    · omega
    · have k1 := mul_pos_of (a := ay - by_) (b := u) (by rw [show (ay - by_) * u = (my - by_) * s from by grind]; exact Int.mul_pos (by omega) hs) (by omega)
      have k2 := mul_pos_of (a := ay - by_) (b := v) (by rw [show (ay - by_) * v = (ay - my) * s from by grind]; exact Int.mul_pos (by omega) hs) (by omega)
      exact ⟨k1, k2⟩
  · have m1 : ax ≠ mx := fun e => by
      subst e
      have : (bx - ax) * (my - ay) = 0 := by simpa using h0'
      rcases Int.mul_eq_zero.1 this with h | h <;> omega
    have m2 : bx ≠ mx := fun e => by
      subst e
      have : (bx - ax) * (my - by_) = 0 := by grind
      rcases Int.mul_eq_zero.1 this with h | h <;> omega
    have k1 := mul_pos_of (a := ax - bx) (b := u) (by rw [show (ax - bx) * u = (mx - bx) * s from by grind]; exact Int.mul_pos (by omega) hs) (by omega)
    have k2 := mul_pos_of (a := ax - bx) (b := v) (by rw [show (ax - bx) * v = (ax - mx) * s from by grind]; exact Int.mul_pos (by omega) hs) (by omega)
    exact ⟨k1, k2⟩
theorem OnE.flip {ax ay bx by_ mx my : Int} (h : OnE ax ay bx by_ mx my) : OnE bx by_ ax ay mx my := by
  obtain ⟨h0, hx, hy, na, nb⟩ := h
  exact ⟨by rw [side_flip]; omega, hx.symm, hy.symm, nb, na⟩
theorem covers_on {ax ay bx by_ cx cy x y : Int} (h : ¬ (x < 0 ∨ y < 0 ∨ 1024 ≤ x ∨ 1024 ≤ y)) (ho : OnE ax ay bx by_ (16 * x + 8) (16 * y + 8)) (hs : 0 < sideZ ax ay bx by_ cx cy) : coversZ ax ay bx by_ cx cy x y = topZ ax ay bx by_ := by
  obtain ⟨h1, h2⟩ := on_sides ho hs
  rw [coversZ_in h (by omega), if_neg (by omega), in3]
  have e1 : inZ bx by_ cx cy (16 * x + 8) (16 * y + 8) = true := by unfold inZ; exact decide_eq_true (.inl h1)
  have e2 : inZ cx cy ax ay (16 * x + 8) (16 * y + 8) = true := by unfold inZ; exact decide_eq_true (.inl h2)
  rw [e1, e2]; unfold inZ; rw [ho.1]; simp
theorem top_anti (ax ay bx by_ : Int) (h : ¬ (ax = bx ∧ ay = by_)) : topZ bx by_ ax ay = !topZ ax ay bx by_ := by
  unfold topZ; rw [← decide_not, decide_eq_decide]; omega
theorem shared_one {ax ay bx by_ cx cy dx dy x y : Int} (h : ¬ (x < 0 ∨ y < 0 ∨ 1024 ≤ x ∨ 1024 ≤ y)) (ho : OnE ax ay bx by_ (16 * x + 8) (16 * y + 8))
    (hs : (sideZ ax ay bx by_ cx cy < 0 ∧ 0 < sideZ ax ay bx by_ dx dy) ∨ (0 < sideZ ax ay bx by_ cx cy ∧ sideZ ax ay bx by_ dx dy < 0)) :
    (coversZ ax ay bx by_ cx cy x y != coversZ bx by_ ax ay dx dy x y) = true := by
  have e := side_flip ax ay bx by_ dx dy
  have e2 := side_flip ax ay bx by_ cx cy
  have hne : ¬ (ax = bx ∧ ay = by_) := fun h => by have := side_degen ax ay bx by_ cx cy h; omega
  rcases hs with ⟨h3, h4⟩ | ⟨h3, h4⟩
  · rw [← covers_flip, covers_on h ho.flip (by omega), ← covers_flip bx by_ ax ay dx dy, covers_on h ho (by omega), top_anti _ _ _ _ hne]; simp
  · rw [covers_on h ho h3, covers_on h ho.flip (by omega), top_anti _ _ _ _ hne]; simp
end Go.SK
