/-
  Plain law: triangles that are moved.
-/
import Derived.Test.YtnbapjkldjhjoaaSkCoverH
set_option linter.unusedVariables false
set_option linter.unusedSimpArgs false
namespace Go.SK
/-! a triangle that is moved by whole pixels -/
theorem side_move (ax ay bx by_ px py u v : Int) : sideZ (ax + u) (ay + v) (bx + u) (by_ + v) (px + u) (py + v) = sideZ ax ay bx by_ px py := by unfold sideZ; grind
theorem top_move (ax ay bx by_ u v : Int) : topZ (ax + u) (ay + v) (bx + u) (by_ + v) = topZ ax ay bx by_ := by
  unfold topZ; rw [decide_eq_decide]; omega
theorem inZ_move (ax ay bx by_ px py u v : Int) : inZ (ax + u) (ay + v) (bx + u) (by_ + v) (px + u) (py + v) = inZ ax ay bx by_ px py := by
  unfold inZ; rw [side_move, top_move]
theorem in3_move (ax ay bx by_ cx cy px py u v : Int) : in3 (ax + u) (ay + v) (bx + u) (by_ + v) (cx + u) (cy + v) (px + u) (py + v) = in3 ax ay bx by_ cx cy px py := by
  unfold in3; rw [inZ_move, inZ_move, inZ_move]
theorem covers_move {ax ay bx by_ cx cy x y dx dy : Int} (h : ¬ (x < 0 ∨ y < 0 ∨ 1024 ≤ x ∨ 1024 ≤ y)) (h2 : ¬ (x + dx < 0 ∨ y + dy < 0 ∨ 1024 ≤ x + dx ∨ 1024 ≤ y + dy)) :
    coversZ (ax + 16 * dx) (ay + 16 * dy) (bx + 16 * dx) (by_ + 16 * dy) (cx + 16 * dx) (cy + 16 * dy) (x + dx) (y + dy) = coversZ ax ay bx by_ cx cy x y := by
  unfold coversZ
  rw [if_neg h, if_neg h2, side_move ax ay bx by_ cx cy (16 * dx) (16 * dy), show 16 * (x + dx) + 8 = 16 * x + 8 + 16 * dx by omega, show 16 * (y + dy) + 8 = 16 * y + 8 + 16 * dy by omega, in3_move, in3_move]
theorem clamp_small {x d : Int} (h : -16000 ≤ x ∧ x ≤ 16000) (hd : -900 ≤ d ∧ d ≤ 900) : clampZ (x + 16 * d) = x + 16 * d ∧ clampZ x = x := by
  unfold clampZ; omega
theorem has_move {ax ay bx by_ cx cy x y dx dy : Int} (hx : 0 ≤ x ∧ x < 1024 ∧ 0 ≤ y ∧ y < 1024) (hx2 : 0 ≤ x + dx ∧ x + dx < 1024 ∧ 0 ≤ y + dy ∧ y + dy < 1024) (hd : (-900 ≤ dx ∧ dx ≤ 900) ∧ -900 ≤ dy ∧ dy ≤ 900)
    (h1 : -16000 ≤ ax ∧ ax ≤ 16000) (h2 : -16000 ≤ ay ∧ ay ≤ 16000) (h3 : -16000 ≤ bx ∧ bx ≤ 16000) (h4 : -16000 ≤ by_ ∧ by_ ≤ 16000) (h5 : -16000 ≤ cx ∧ cx ≤ 16000) (h6 : -16000 ≤ cy ∧ cy ≤ 16000) :
    hasZ (covRows (clampZ ax) (clampZ ay) (clampZ bx) (clampZ by_) (clampZ cx) (clampZ cy) 1024 1024) x y =
    hasZ (covRows (clampZ (ax + 16 * dx)) (clampZ (ay + 16 * dy)) (clampZ (bx + 16 * dx)) (clampZ (by_ + 16 * dy)) (clampZ (cx + 16 * dx)) (clampZ (cy + 16 * dy)) 1024 1024) (x + dx) (y + dy) := by
  rw [has_cov ⟨by omega, by omega, by omega, by omega⟩, has_cov ⟨by omega, by omega, by omega, by omega⟩, decide_eq_true (by omega), decide_eq_true (by omega),
    (clamp_small h1 hd.1).1, (clamp_small h1 hd.1).2, (clamp_small h2 hd.2).1, (clamp_small h2 hd.2).2, (clamp_small h3 hd.1).1, (clamp_small h3 hd.1).2, (clamp_small h4 hd.2).1, (clamp_small h4 hd.2).2,
    (clamp_small h5 hd.1).1, (clamp_small h5 hd.1).2, (clamp_small h6 hd.2).1, (clamp_small h6 hd.2).2, covers_move (by omega) (by omega)]
end Go.SK
