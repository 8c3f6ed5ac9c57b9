/-
  Plain law: which pixels the rows hold.
-/
import Derived.Test.YtnbapjkldjhjoaaSkCoverE
set_option linter.unusedVariables false
set_option linter.unusedSimpArgs false
namespace Go.SK
/-! what the rows are: a pixel of the picture is in them just if it is covered -/
theorem side_lin (ax ay bx by_ m n my : Int) : sideZ ax ay bx by_ n my = sideZ ax ay bx by_ m my - (by_ - ay) * (n - m) := by unfold sideZ; grind
theorem inZ_conv {ax ay bx by_ my m1 m2 m3 : Int} (h12 : m1 ≤ m2) (h23 : m2 ≤ m3) (h1 : inZ ax ay bx by_ m1 my = true) (h3 : inZ ax ay bx by_ m3 my = true) : inZ ax ay bx by_ m2 my = true := by
  unfold inZ at *
  have h1 := of_decide_eq_true h1; have h3 := of_decide_eq_true h3
  refine decide_eq_true ?_
  have e1 := side_lin ax ay bx by_ m1 m2 my
  have e3 := side_lin ax ay bx by_ m2 m3 my
  rcases Int.le_total (by_ - ay) 0 with hk | hk
  · have := Int.mul_nonneg (a := -(by_ - ay)) (b := m2 - m1) (by omega) (by omega)
    rw [Int.neg_mul] at this
    rcases h1 with h1 | h1
    · exact .inl (by omega)
    · by_cases hz : sideZ ax ay bx by_ m2 my = 0
      · exact .inr ⟨hz, h1.2⟩
      · exact .inl (by omega)
  · have := Int.mul_nonneg (a := by_ - ay) (b := m3 - m2) hk (by omega)
    rcases h3 with h3 | h3
    · exact .inl (by omega)
    · by_cases hz : sideZ ax ay bx by_ m2 my = 0
      · exact .inr ⟨hz, h3.2⟩
      · exact .inl (by omega)
theorem in3_conv {ax ay bx by_ cx cy my m1 m2 m3 : Int} (h12 : m1 ≤ m2) (h23 : m2 ≤ m3) (h1 : in3 ax ay bx by_ cx cy m1 my = true) (h3 : in3 ax ay bx by_ cx cy m3 my = true) : in3 ax ay bx by_ cx cy m2 my = true := by
  unfold in3 at *
  simp only [Bool.and_eq_true] at *
  exact ⟨⟨inZ_conv h12 h23 h1.1.1 h3.1.1, inZ_conv h12 h23 h1.1.2 h3.1.2⟩, inZ_conv h12 h23 h1.2 h3.2⟩
theorem covers_cases {ax ay bx by_ cx cy x y : Int} (h : coversZ ax ay bx by_ cx cy x y = true) : (0 ≤ x ∧ 0 ≤ y ∧ x < 1024 ∧ y < 1024) ∧
    ((sideZ ax ay bx by_ cx cy < 0 ∧ in3 ax ay cx cy bx by_ (16 * x + 8) (16 * y + 8) = true) ∨ (0 < sideZ ax ay bx by_ cx cy ∧ in3 ax ay bx by_ cx cy (16 * x + 8) (16 * y + 8) = true)) := by
  unfold coversZ at h
  split at h
  · cases h
  · split at h
    · cases h
    · split at h
      · exact ⟨by omega, .inl ⟨by omega, h⟩⟩
      · exact ⟨by omega, .inr ⟨by omega, h⟩⟩
theorem coversZ_conv {ax ay bx by_ cx cy x1 x2 x3 y : Int} (h12 : x1 ≤ x2) (h23 : x2 ≤ x3) (h1 : coversZ ax ay bx by_ cx cy x1 y = true) (h3 : coversZ ax ay bx by_ cx cy x3 y = true) : coversZ ax ay bx by_ cx cy x2 y = true := by
  obtain ⟨b1, c1⟩ := covers_cases h1
  obtain ⟨b3, c3⟩ := covers_cases h3
  rcases c1 with ⟨n1, c1⟩ | ⟨n1, c1⟩ <;> rcases c3 with ⟨n3, c3⟩ | ⟨n3, c3⟩
  · rw [coversZ_in (by omega) (by omega), if_pos n1]; exact in3_conv (by omega) (by omega) c1 c3
  · omega
  · omega
  · rw [coversZ_in (by omega) (by omega), if_neg (by omega)]; exact in3_conv (by omega) (by omega) c1 c3
theorem inZ_ge {ax ay bx by_ mx my : Int} (h : inZ ax ay bx by_ mx my = true) : 0 ≤ sideZ ax ay bx by_ mx my := by
  unfold inZ at h; have := of_decide_eq_true h; omega
theorem bary_sum (ax ay bx by_ cx cy mx my : Int) : sideZ ax ay bx by_ mx my + sideZ bx by_ cx cy mx my + sideZ cx cy ax ay mx my = sideZ ax ay bx by_ cx cy := by unfold sideZ; grind
theorem bary_x (ax ay bx by_ cx cy mx my l : Int) : sideZ ax ay bx by_ cx cy * (mx - l) = sideZ bx by_ cx cy mx my * (ax - l) + sideZ cx cy ax ay mx my * (bx - l) + sideZ ax ay bx by_ mx my * (cx - l) := by unfold sideZ; grind
theorem bary_y (ax ay bx by_ cx cy mx my l : Int) : sideZ ax ay bx by_ cx cy * (my - l) = sideZ bx by_ cx cy mx my * (ay - l) + sideZ cx cy ax ay mx my * (by_ - l) + sideZ ax ay bx by_ mx my * (cy - l) := by unfold sideZ; grind
theorem between3 {A m s1 s2 s3 a b c : Int} (hA : 0 < A) (h1 : 0 ≤ s1) (h2 : 0 ≤ s2) (h3 : 0 ≤ s3) (he : ∀ l, A * (m - l) = s1 * (a - l) + s2 * (b - l) + s3 * (c - l)) : lo3 a b c ≤ m ∧ m ≤ hi3 a b c := by
  constructor
  · refine Classical.byContradiction fun hlt => ?_
    have e := he (lo3 a b c)
    have p1 := Int.mul_nonneg h1 (show 0 ≤ a - lo3 a b c by unfold lo3; omega)
    have p2 := Int.mul_nonneg h2 (show 0 ≤ b - lo3 a b c by unfold lo3; omega)
    have p3 := Int.mul_nonneg h3 (show 0 ≤ c - lo3 a b c by unfold lo3; omega)
    have p4 := Int.mul_pos hA (show 0 < lo3 a b c - m by omega)
    rw [show lo3 a b c - m = -(m - lo3 a b c) by omega, Int.mul_neg] at p4
    omega
  · refine Classical.byContradiction fun hlt => ?_
    have e := he (hi3 a b c)
    have p1 := Int.mul_nonneg h1 (show 0 ≤ hi3 a b c - a by unfold hi3; omega)
    have p2 := Int.mul_nonneg h2 (show 0 ≤ hi3 a b c - b by unfold hi3; omega)
    have p3 := Int.mul_nonneg h3 (show 0 ≤ hi3 a b c - c by unfold hi3; omega)
    rw [show hi3 a b c - a = -(a - hi3 a b c) by omega, Int.mul_neg] at p1
    rw [show hi3 a b c - b = -(b - hi3 a b c) by omega, Int.mul_neg] at p2
    rw [show hi3 a b c - c = -(c - hi3 a b c) by omega, Int.mul_neg] at p3
    have p4 := Int.mul_pos hA (show 0 < m - hi3 a b c by omega)
    omega
theorem in3_box {ax ay bx by_ cx cy mx my : Int} (hA : 0 < sideZ ax ay bx by_ cx cy) (h : in3 ax ay bx by_ cx cy mx my = true) : (lo3 ax bx cx ≤ mx ∧ mx ≤ hi3 ax bx cx) ∧ lo3 ay by_ cy ≤ my ∧ my ≤ hi3 ay by_ cy := by
  unfold in3 at h
  simp only [Bool.and_eq_true] at h
  have h1 := inZ_ge h.1.1; have h2 := inZ_ge h.1.2; have h3 := inZ_ge h.2
  exact ⟨between3 hA h2 h3 h1 fun l => bary_x _ _ _ _ _ _ _ _ l, between3 hA h2 h3 h1 fun l => bary_y _ _ _ _ _ _ _ _ l⟩
theorem covers_box {ax ay bx by_ cx cy x y : Int} (h : coversZ ax ay bx by_ cx cy x y = true) : (lo3 ax bx cx ≤ 16 * x + 8 ∧ 16 * x + 8 ≤ hi3 ax bx cx) ∧ lo3 ay by_ cy ≤ 16 * y + 8 ∧ 16 * y + 8 ≤ hi3 ay by_ cy := by
  obtain ⟨_, c⟩ := covers_cases h
  rcases c with ⟨n, c⟩ | ⟨n, c⟩
  · have e : sideZ ax ay cx cy bx by_ = - sideZ ax ay bx by_ cx cy := by unfold sideZ; grind
    have := in3_box (by omega) c
    rw [show lo3 ax bx cx = lo3 ax cx bx by unfold lo3; omega, show hi3 ax bx cx = hi3 ax cx bx by unfold hi3; omega, show lo3 ay by_ cy = lo3 ay cy by_ by unfold lo3; omega, show hi3 ay by_ cy = hi3 ay cy by_ by unfold hi3; omega]
    exact this
  · exact in3_box n c
/-! rows, as members -/
theorem rowAt_self (p : Int → Bool) (a b : Int) : RowOk p a b (a + fstN p a (b - a).toNat) (if lstN p a (b - a).toNat = 0 then a + fstN p a (b - a).toNat else a + lstN p a (b - a).toNat) := by
  obtain ⟨l1, l2, l3⟩ := lstN_spec p a (b - a).toNat
  obtain ⟨f1, f2, f3⟩ := fstN_spec p (b - a).toNat a
  by_cases h : lstN p a (b - a).toNat = 0
  · rw [if_pos h]
    exact ⟨fun h => by omega, fun _ x h1 h2 => l2 x (by omega) (by omega)⟩
  · rw [if_neg h]
    have hp := l3 h
    have hlt : fstN p a (b - a).toNat < lstN p a (b - a).toNat := by
      refine Classical.byContradiction fun hn => ?_
      rw [f2 _ (by omega) (by omega)] at hp; cases hp
    exact ⟨fun _ => ⟨by omega, by omega, f3 (by omega), hp, f2, fun x h1 h2 => l2 x h1 (by omega)⟩, fun h => by omega⟩
theorem mem_rowAt {p : Int → Bool} {a b y : Int} {r : Int × Int × Int} : r ∈ rowAt p a b y ↔ r.1 = y ∧ r.2.1 < r.2.2 ∧ RowOk p a b r.2.1 r.2.2 := by
  constructor
  · intro hr
    have hs := rowAt_self p a b
    unfold rowAt at hr
    split at hr
    · cases hr
    · rename_i hne
      rw [if_neg hne] at hs
      obtain rfl := List.mem_singleton.1 hr
      refine ⟨rfl, ?_, hs⟩
      refine Classical.byContradiction fun hlt => ?_
      obtain ⟨l1, l2, l3⟩ := lstN_spec p a (b - a).toNat
      have := l3 hne
      rw [hs.no hlt _ (by omega) (by omega)] at this; cases this
  · rintro ⟨h1, h2, h3⟩
    rw [rowAt_ok y h3, if_pos h2]
    obtain ⟨a1, a2, a3⟩ := r
    simp only at h1
    subst h1
    exact List.mem_singleton.2 rfl
theorem mem_rowsZ {p : Int → Int → Bool} {a b y0 : Int} {r : Int × Int × Int} : ∀ {k : Nat}, r ∈ rowsZ p a b y0 k ↔ (y0 ≤ r.1 ∧ r.1 < y0 + k) ∧ r.2.1 < r.2.2 ∧ RowOk (p r.1) a b r.2.1 r.2.2
  | 0 => by simp only [rowsZ]; constructor
            · intro h; cases h
            · rintro ⟨h, _⟩; omega
  | k + 1 => by
    simp only [rowsZ, List.mem_append, mem_rowsZ (k := k), mem_rowAt]
    constructor
    · rintro (⟨h1, h2⟩ | ⟨h1, h2, h3⟩)
      · exact ⟨by omega, h2⟩
      · exact ⟨by omega, h2, by rw [h1]; exact h3⟩
    · rintro ⟨h1, h2, h3⟩
      by_cases e : r.1 = y0 + k
      · exact .inr ⟨e, h2, by rw [e] at h3; exact h3⟩
      · exact .inl ⟨by omega, h2, h3⟩
abbrev Pic (wd ht : Int) : Prop := 1 ≤ wd ∧ wd ≤ 1024 ∧ 1 ≤ ht ∧ ht ≤ 1024
/-- the rows' members -/
theorem mem_covRows {ax ay bx by_ cx cy wd ht : Int} (hp : Pic wd ht) {r : Int × Int × Int} : r ∈ covRows ax ay bx by_ cx cy wd ht ↔
    (0 ≤ r.1 ∧ r.1 < ht) ∧ r.2.1 < r.2.2 ∧ RowOk (fun x => coversZ ax ay bx by_ cx cy x r.1) 0 wd r.2.1 r.2.2 := by
  rcases hB : boxV ax ay bx by_ cx cy wd ht with ⟨x0, x1, y0, y1⟩
  rw [rows_of_box hp hB, mem_rowsZ]
  have hbd := box_bd hB
  -- what is covered lies in the box
  have hin : ∀ x y, 0 ≤ x → x < wd → 0 ≤ y → y < ht → coversZ ax ay bx by_ cx cy x y = true → x0 ≤ x ∧ x < x1 ∧ y0 ≤ y ∧ y < y1 := by
    intro x y h1 h2 h3 h4 hc
    obtain ⟨⟨b1, b2⟩, b3, b4⟩ := covers_box hc
    have f1 : fromZ (lo3 ax bx cx) ≤ x := by unfold fromZ; omega
    have f2 : x < toZ (hi3 ax bx cx) wd := by unfold toZ; omega
    have f3 : fromZ (lo3 ay by_ cy) ≤ y := by unfold fromZ; omega
    have f4 : y < toZ (hi3 ay by_ cy) ht := by unfold toZ; omega
    have his : boxIs ax ay bx by_ cx cy wd ht = true := decide_eq_true ⟨hp, by omega, by omega⟩
    unfold boxV at hB
    rw [if_pos his] at hB
    simp only [Prod.mk.injEq] at hB
    omega
  have hbd2 : x1 ≤ wd ∧ y1 ≤ ht := by
    unfold boxV at hB
    split at hB
    · simp only [Prod.mk.injEq] at hB
      have f3 : toZ (hi3 ax bx cx) wd ≤ wd := by unfold toZ; omega
      have f4 : toZ (hi3 ay by_ cy) ht ≤ ht := by unfold toZ; omega
      omega
    · simp only [Prod.mk.injEq] at hB
      have := hp; omega
  constructor
  · rintro ⟨h1, h2, h3⟩
    obtain ⟨q1, q2, q3, q4, q5, q6⟩ := h3.yes h2
    refine ⟨by omega, h2, fun _ => ⟨by omega, by omega, q3, q4, fun x hx hxF => ?_, fun x hx hxb => ?_⟩, fun h => absurd h2 h⟩
    · cases hc : coversZ ax ay bx by_ cx cy x r.1 with
      | false => rfl
      | true =>
        have hh := hin x r.1 hx (by omega) (by omega) (by omega) hc
        have := q5 x hh.1 hxF
        simp only [hc] at this; exact this
    · cases hc : coversZ ax ay bx by_ cx cy x r.1 with
      | false => rfl
      | true =>
        have hh := hin x r.1 (by omega) hxb (by omega) (by omega) hc
        have := q6 x hx (by omega)
        simp only [hc] at this; exact this
  · rintro ⟨h1, h2, h3⟩
    obtain ⟨q1, q2, q3, q4, q5, q6⟩ := h3.yes h2
    have i1 := hin _ _ q1 (by omega) h1.1 h1.2 q3
    have i2 := hin (r.2.2 - 1) r.1 (by omega) (by omega) h1.1 h1.2 q4
    exact ⟨by omega, h2, fun _ => ⟨by omega, by omega, q3, q4, fun x hx hxF => q5 x (by omega) hxF, fun x hx hxb => q6 x hx (by omega)⟩, fun h => absurd h2 h⟩
/-- is a pixel in the rows -/
def hasZ (l : List (Int × Int × Int)) (x y : Int) : Bool := l.any fun r => decide (r.1 = y ∧ r.2.1 ≤ x ∧ x < r.2.2)
theorem has_true {l : List (Int × Int × Int)} {x y : Int} {i : Nat} (hi : i < l.length) (h : (l.getD i (0, 0, 0)).1 = y ∧ (l.getD i (0, 0, 0)).2.1 ≤ x ∧ x < (l.getD i (0, 0, 0)).2.2) : hasZ l x y = true := by
  unfold hasZ
  rw [List.any_eq_true]
  refine ⟨l.getD i (0, 0, 0), ?_, decide_eq_true h⟩
  simp only [List.getD, List.getElem?_eq_getElem hi, Option.getD_some]
  exact List.getElem_mem hi
theorem has_false {l : List (Int × Int × Int)} {x y : Int} (h : ∀ i, i < l.length → ¬ ((l.getD i (0, 0, 0)).1 = y ∧ (l.getD i (0, 0, 0)).2.1 ≤ x ∧ x < (l.getD i (0, 0, 0)).2.2)) : hasZ l x y = false := by
  unfold hasZ
  rw [List.any_eq_false]
  intro r hr
  obtain ⟨i, hi, rfl⟩ := List.mem_iff_getElem.1 hr
  have := h i hi
  simpa [List.getD, hi] using this
theorem has_cov {ax ay bx by_ cx cy wd ht x y : Int} (hp : Pic wd ht) : hasZ (covRows ax ay bx by_ cx cy wd ht) x y = (decide (0 ≤ x ∧ x < wd ∧ 0 ≤ y ∧ y < ht) && coversZ ax ay bx by_ cx cy x y) := by
  rw [Bool.eq_iff_iff, Bool.and_eq_true, decide_eq_true_eq, hasZ, List.any_eq_true]
  constructor
  · rintro ⟨r, hr, hd⟩
    obtain ⟨rfl, h1, h2⟩ := of_decide_eq_true hd
    obtain ⟨m1, m2, m3⟩ := (mem_covRows hp).1 hr
    obtain ⟨q1, q2, q3, q4, q5, q6⟩ := m3.yes m2
    exact ⟨by omega, coversZ_conv h1 (by omega) q3 q4⟩
  · rintro ⟨h1, hc⟩
    have hs := rowAt_self (fun x => coversZ ax ay bx by_ cx cy x y) 0 wd
    generalize (0 : Int) + (fstN (fun x => coversZ ax ay bx by_ cx cy x y) 0 (wd - 0).toNat : Int) = F at hs
    generalize (if lstN (fun x => coversZ ax ay bx by_ cx cy x y) 0 (wd - 0).toNat = 0 then F else 0 + (lstN (fun x => coversZ ax ay bx by_ cx cy x y) 0 (wd - 0).toNat : Int)) = T at hs
    have hlt : F < T := Classical.byContradiction fun hn => by
      have := hs.no hn x h1.1 h1.2.1
      simp only [hc] at this; cases this
    obtain ⟨q1, q2, q3, q4, q5, q6⟩ := hs.yes hlt
    refine ⟨(y, F, T), (mem_covRows hp).2 ⟨by dsimp only; omega, hlt, hs⟩, decide_eq_true ⟨rfl, ?_, ?_⟩⟩
    · refine Classical.byContradiction fun hn => ?_
      have := q5 x h1.1 (by dsimp only at hn; omega)
      simp only [hc] at this; cases this
    · refine Classical.byContradiction fun hn => ?_
      have := q6 x (by dsimp only at hn; omega) h1.2.1
      simp only [hc] at this; cases this
end Go.SK
