/-
  Plain law: the pixels in their order.
-/
import Derived.Test.YtnbapjkldjhjoaaSkCoverU
import Derived.Test.YtnbapjkldjhjoaaSkCoverH
set_option linter.unusedVariables false
set_option linter.unusedSimpArgs false
namespace Go.SK
/-! the pixels in their order -/
theorem pixAt_ex {l : List (Int × Int × Int)} (hb : RowsBd l) : ∀ (n : Nat), n ≤ l.length → ∀ j : Nat, (j : Int) < totN l n → ∃ (i : Nat) (x : Int), i < n ∧ (l.getD i (0, 0, 0)).2.1 ≤ x ∧ x < (l.getD i (0, 0, 0)).2.2 ∧ j = (totN l i + (x - (l.getD i (0, 0, 0)).2.1)).toNat
  | 0, _, j, h => by simp [totN] at h; omega
  | n + 1, hn, j, h => by
    by_cases hj : (j : Int) < totN l n
    · obtain ⟨i, x, h1, h2⟩ := pixAt_ex hb n (by omega) j hj
      exact ⟨i, x, by omega, h2⟩
    · have h1 := totN_bd hb n (by omega)
      rw [totN] at h
      exact ⟨n, (l.getD n (0, 0, 0)).2.1 + (j - totN l n), by omega, by omega, by omega, by omega⟩
/-- rows that rise, each within a width -/
structure RowsIn (l : List (Int × Int × Int)) (wd ht : Int) : Prop where
  bd : RowsBd l
  sort : ∀ i, i + 1 < l.length → (l.getD i (0, 0, 0)).1 < (l.getD (i + 1) (0, 0, 0)).1
  inn : ∀ i, i < l.length → 0 ≤ (l.getD i (0, 0, 0)).1 ∧ (l.getD i (0, 0, 0)).1 < ht ∧ (l.getD i (0, 0, 0)).2.2 ≤ wd
theorem covRows_in {ax ay bx by_ cx cy wd ht : Int} {l : List (Int × Int × Int)} (hl : covRows ax ay bx by_ cx cy wd ht = l) : RowsIn l wd ht := by
  have hbd := covRows_bd ax ay bx by_ cx cy wd ht
  rw [hl] at hbd
  by_cases hp : Pic wd ht
  · rcases hB : boxV ax ay bx by_ cx cy wd ht with ⟨x0, x1, y0, y1⟩
    refine ⟨hbd, fun i hi => (row_facts hp hB hl hi).sort i rfl, fun i hi => ?_⟩
    obtain ⟨m1, m2, m3⟩ := (mem_covRows hp).1 (getD_mem hl hi)
    have := m3.yes m2
    exact ⟨m1.1, m1.2, this.2.1⟩
  · rw [rows_no hp] at hl
    subst hl
    exact ⟨hbd, fun i hi => by simp at hi, fun i hi => by simp at hi⟩
theorem pix_in {l : List (Int × Int × Int)} {wd ht : Int} (h : RowsIn l wd ht) {j : Nat} (hj : j < (totN l l.length).toNat) : 0 ≤ (pixAt l j).1 ∧ (pixAt l j).1 < wd ∧ 0 ≤ (pixAt l j).2 ∧ (pixAt l j).2 < ht := by
  obtain ⟨i, x, h1, h2, h3, rfl⟩ := pixAt_ex h.bd l.length (Nat.le_refl _) j (by omega)
  rw [pixAt_row h.bd h1 h2 h3]
  have h4 := h.inn i h1
  have h5 := h.bd.2 i h1
  dsimp only
  omega
theorem pix_next {l : List (Int × Int × Int)} {wd ht : Int} (h : RowsIn l wd ht) {j : Nat} (hj : j + 1 < (totN l l.length).toNat) : (pixAt l j).2 * wd + (pixAt l j).1 < (pixAt l (j + 1)).2 * wd + (pixAt l (j + 1)).1 := by
  obtain ⟨i, x, h1, h2, h3, he⟩ := pixAt_ex h.bd l.length (Nat.le_refl _) j (by omega)
  have hin := pix_in h (j := j) (by omega)
  have hb := totN_bd h.bd i (by omega)
  have h5 := h.bd.2 i h1
  rw [he] at hin ⊢
  rw [pixAt_row h.bd h1 h2 h3] at hin ⊢
  by_cases hx : x + 1 < (l.getD i (0, 0, 0)).2.2
  · rw [show (totN l i + (x - (l.getD i (0, 0, 0)).2.1)).toNat + 1 = (totN l i + (x + 1 - (l.getD i (0, 0, 0)).2.1)).toNat by omega, pixAt_row h.bd h1 (by omega) hx]
    dsimp only; omega
  · have hs : (totN l i + (x - (l.getD i (0, 0, 0)).2.1)).toNat + 1 = (totN l (i + 1)).toNat := by rw [totN]; omega
    have hi : i + 1 < l.length := by
      refine Classical.byContradiction fun hn => ?_
      have e : i + 1 = l.length := by omega
      rw [he, hs, e] at hj; omega
    have h6 := h.bd.2 (i + 1) hi
    have h7 := pixAt_row h.bd hi (x := (l.getD (i + 1) (0, 0, 0)).2.1) (by omega) (by omega)
    rw [show (totN l (i + 1) + ((l.getD (i + 1) (0, 0, 0)).2.1 - (l.getD (i + 1) (0, 0, 0)).2.1)).toNat = (totN l (i + 1)).toNat by omega] at h7
    rw [hs, h7]
    have h8 := h.sort i hi
    have h9 := h.inn i h1
    dsimp only at hin ⊢
    have hm := Int.mul_le_mul_of_nonneg_right (show (l.getD i (0, 0, 0)).1 + 1 ≤ (l.getD (i + 1) (0, 0, 0)).1 by omega) (show 0 ≤ wd by omega)
    rw [Int.add_mul, Int.one_mul] at hm
    omega
/-- the number of the last pixel that was told -/
def lastZ (l : List (Int × Int × Int)) (wd : Int) : Nat → Int
  | 0 => -1
  | j + 1 => (pixAt l j).2 * wd + (pixAt l j).1
theorem last_lt {l : List (Int × Int × Int)} {wd ht : Int} (h : RowsIn l wd ht) : ∀ {j : Nat}, j < (totN l l.length).toNat → lastZ l wd j < (pixAt l j).2 * wd + (pixAt l j).1
  | 0, hj => by
    have := pix_in h hj
    have := Int.mul_nonneg (show 0 ≤ (pixAt l 0).2 by omega) (show 0 ≤ wd by omega)
    simp only [lastZ]; omega
  | j + 1, hj => pix_next h hj
theorem covRows_wd {ax ay bx by_ cx cy wd ht : Int} {l : List (Int × Int × Int)} (hl : covRows ax ay bx by_ cx cy wd ht = l) {i : Nat} (hi : i < (totN l l.length).toNat) : wd ≤ 1024 ∧ ht ≤ 1024 := by
  by_cases hp : Pic wd ht
  · unfold Pic at hp; omega
  · rw [rows_no hp] at hl
    subst hl
    simp [totN] at hi
theorem last_bd {l : List (Int × Int × Int)} {wd ht : Int} (h : RowsIn l wd ht) {i : Nat} (hi : i < (totN l l.length).toNat) (hw : wd ≤ 1024 ∧ ht ≤ 1024) : -1 ≤ lastZ l wd i ∧ lastZ l wd i ≤ 9999999 := by
  cases i with
  | zero => simp only [lastZ]; omega
  | succ j =>
    have := pix_in h (j := j) (by omega)
    have h1 := Int.mul_nonneg (show 0 ≤ (pixAt l j).2 by omega) (show 0 ≤ wd by omega)
    have h2 := Int.mul_le_mul (show (pixAt l j).2 ≤ 1024 by omega) hw.1 (by omega) (by omega)
    simp only [lastZ]; omega
end Go.SK
