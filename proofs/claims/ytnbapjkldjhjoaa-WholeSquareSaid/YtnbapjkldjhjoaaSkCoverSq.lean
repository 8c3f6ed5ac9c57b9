/-
  Walks of functions, and of the laws over them.
-/
import Derived.Test.YtnbapjkldjhjoaaSkCoverQ
import Derived.Test.YtnbapjkldjhjoaaSkCoverW
import Derived.Test.YtnbapjkldjhjoaaSkN
set_option linter.unusedVariables false
set_option linter.unusedSimpArgs false
namespace Go.SK
/-! a square that a diagonal parts -/
theorem inZ_iff {ax ay bx by_ mx my s : Int} {t : Bool} (hs : sideZ ax ay bx by_ mx my = s) (ht : topZ ax ay bx by_ = t) : inZ ax ay bx by_ mx my = true ↔ 0 < s ∨ (s = 0 ∧ t = true) := by
  subst hs; subst ht; unfold inZ; rw [decide_eq_true_eq]
theorem coversZ_in3 {ax ay bx by_ cx cy x y : Int} (h : ¬ (x < 0 ∨ y < 0 ∨ 1024 ≤ x ∨ 1024 ≤ y)) (hs : 0 < sideZ ax ay bx by_ cx cy) : coversZ ax ay bx by_ cx cy x y = in3 ax ay bx by_ cx cy (16 * x + 8) (16 * y + 8) := by
  unfold coversZ; rw [if_neg h, if_neg (by omega), if_neg (by omega)]

theorem pos_mul {u p : Int} (hu : 0 < u) : (0 < u * p ↔ 0 < p) ∧ (u * p = 0 ↔ p = 0) := by
  rcases Int.lt_trichotomy p 0 with h | h | h
  · have := Int.mul_neg_of_pos_of_neg hu h; omega
  · subst h; simp
  · have := Int.mul_pos hu h; omega

def inSq (L T R B mx my : Int) : Prop := (L ≤ mx ∧ mx < R) ∧ T ≤ my ∧ my < B
instance (L T R B mx my : Int) : Decidable (inSq L T R B mx my) := by unfold inSq; infer_instance

section
variable {L T R B x y mx my : Int}
/-- the two of the first diagonal -/
theorem sq_a (hL : L < R) (hT : T < B) : (in3 L T R T R B mx my = true ↔ T ≤ my ∧ mx < R ∧ 0 ≤ (R - L) * (B - my) - (B - T) * (R - mx)) ∧ (in3 L T R B L B mx my = true ↔ L ≤ mx ∧ my < B ∧ (R - L) * (B - my) - (B - T) * (R - mx) < 0) := by
  have hu : 0 < R - L := by omega
  have hv : 0 < B - T := by omega
  have e1 : sideZ L T R T mx my = (R - L) * (my - T) := by unfold sideZ; grind
  have e2 : sideZ R T R B mx my = (B - T) * (R - mx) := by unfold sideZ; grind
  have e3 : sideZ R B L T mx my = (R - L) * (B - my) - (B - T) * (R - mx) := by unfold sideZ; grind
  have e4 : sideZ L T R B mx my = -((R - L) * (B - my) - (B - T) * (R - mx)) := by unfold sideZ; grind
  have e5 : sideZ R B L B mx my = (R - L) * (B - my) := by unfold sideZ; grind
  have e6 : sideZ L B L T mx my = (B - T) * (mx - L) := by unfold sideZ; grind
  have t1 : topZ L T R T = true := by unfold topZ; simp; omega
  have t2 : topZ R T R B = false := by unfold topZ; simp; omega
  have t3 : topZ R B L T = true := by unfold topZ; simp; omega
  have t4 : topZ L T R B = false := by unfold topZ; simp; omega
  have t5 : topZ R B L B = false := by unfold topZ; simp; omega
  have t6 : topZ L B L T = true := by unfold topZ; simp; omega
  have m1 := pos_mul (p := my - T) hu
  have m2 := pos_mul (p := R - mx) hv
  have m3 := pos_mul (p := B - my) hu
  have m4 := pos_mul (p := mx - L) hv
  constructor
  · simp only [in3, Bool.and_eq_true, inZ_iff e1 t1, inZ_iff e2 t2, inZ_iff e3 t3]
    rw [m1.1, m1.2, m2.1]
    simp; omega
  · simp only [in3, Bool.and_eq_true, inZ_iff e4 t4, inZ_iff e5 t5, inZ_iff e6 t6]
    rw [m3.1, m4.1, m4.2]
    simp; omega
theorem sq_b (hL : L < R) (hT : T < B) : (in3 R T R B L B mx my = true ↔ mx < R ∧ my < B ∧ 0 ≤ (B - T) * (mx - L) - (R - L) * (B - my)) ∧ (in3 R T L B L T mx my = true ↔ L ≤ mx ∧ T ≤ my ∧ (B - T) * (mx - L) - (R - L) * (B - my) < 0) := by
  have hu : 0 < R - L := by omega
  have hv : 0 < B - T := by omega
  have e1 : sideZ R T R B mx my = (B - T) * (R - mx) := by unfold sideZ; grind
  have e2 : sideZ R B L B mx my = (R - L) * (B - my) := by unfold sideZ; grind
  have e3 : sideZ L B R T mx my = (B - T) * (mx - L) - (R - L) * (B - my) := by unfold sideZ; grind
  have e4 : sideZ R T L B mx my = -((B - T) * (mx - L) - (R - L) * (B - my)) := by unfold sideZ; grind
  have e5 : sideZ L B L T mx my = (B - T) * (mx - L) := by unfold sideZ; grind
  have e6 : sideZ L T R T mx my = (R - L) * (my - T) := by unfold sideZ; grind
  have t1 : topZ R T R B = false := by unfold topZ; simp; omega
  have t2 : topZ R B L B = false := by unfold topZ; simp; omega
  have t3 : topZ L B R T = true := by unfold topZ; simp; omega
  have t4 : topZ R T L B = false := by unfold topZ; simp; omega
  have t5 : topZ L B L T = true := by unfold topZ; simp; omega
  have t6 : topZ L T R T = true := by unfold topZ; simp; omega
  have m1 := pos_mul (p := R - mx) hv
  have m2 := pos_mul (p := B - my) hu
  have m3 := pos_mul (p := mx - L) hv
  have m4 := pos_mul (p := my - T) hu
  constructor
  · simp only [in3, Bool.and_eq_true, inZ_iff e1 t1, inZ_iff e2 t2, inZ_iff e3 t3]
    rw [m1.1, m2.1]
    simp; omega
  · simp only [in3, Bool.and_eq_true, inZ_iff e4 t4, inZ_iff e5 t5, inZ_iff e6 t6]
    rw [m3.1, m3.2, m4.1, m4.2]
    simp; omega

theorem le_of_mul {u a b : Int} (hu : 0 < u) (h : u * a ≤ u * b) : a ≤ b := Int.le_of_mul_le_mul_left h hu
theorem lt_of_mul {u a b : Int} (hu : 0 < u) (h : u * a < u * b) : a < b := Int.lt_of_mul_lt_mul_left h (by omega)

theorem sq_one (hL : L < R) (hT : T < B) : (in3 L T R T R B mx my = true ∨ in3 L T R B L B mx my = true ↔ inSq L T R B mx my) ∧ ¬ (in3 L T R T R B mx my = true ∧ in3 L T R B L B mx my = true) := by
  obtain ⟨h1, h2⟩ := sq_a (mx := mx) (my := my) hL hT
  rw [h1, h2]
  have hu : 0 < R - L := by omega
  have hv : 0 < B - T := by omega
  refine ⟨⟨?_, fun h => ?_⟩, by omega⟩
  · rintro (⟨a1, a2, a3⟩ | ⟨a1, a2, a3⟩)
    · have b1 : 0 < (B - T) * (R - mx) := Int.mul_pos hv (by omega)
      have b2 : 0 < B - my := (pos_mul hu).1.1 (by omega)
      have b3 : (R - L) * (B - my) ≤ (R - L) * (B - T) := Int.mul_le_mul_of_nonneg_left (by omega) (by omega)
      have b4 : R - mx ≤ R - L := le_of_mul hv (by rw [Int.mul_comm (B - T) (R - L)]; omega)
      unfold inSq; omega
    · have b1 : 0 < (R - L) * (B - my) := Int.mul_pos hu (by omega)
      have b2 : 0 < R - mx := (pos_mul hv).1.1 (by omega)
      have b3 : (B - T) * (R - mx) ≤ (B - T) * (R - L) := Int.mul_le_mul_of_nonneg_left (by omega) (by omega)
      have b4 : B - my < B - T := lt_of_mul hu (by rw [Int.mul_comm (R - L) (B - T)]; omega)
      unfold inSq; omega
  · unfold inSq at h
    omega
theorem sq_two (hL : L < R) (hT : T < B) : (in3 R T R B L B mx my = true ∨ in3 R T L B L T mx my = true ↔ inSq L T R B mx my) ∧ ¬ (in3 R T R B L B mx my = true ∧ in3 R T L B L T mx my = true) := by
  obtain ⟨h1, h2⟩ := sq_b (mx := mx) (my := my) hL hT
  rw [h1, h2]
  have hu : 0 < R - L := by omega
  have hv : 0 < B - T := by omega
  refine ⟨⟨?_, fun h => ?_⟩, by omega⟩
  · rintro (⟨a1, a2, a3⟩ | ⟨a1, a2, a3⟩)
    · have b1 : 0 < (R - L) * (B - my) := Int.mul_pos hu (by omega)
      have b2 : 0 < mx - L := (pos_mul hv).1.1 (by omega)
      have b3 : (B - T) * (mx - L) < (B - T) * (R - L) := Int.mul_lt_mul_of_pos_left (by omega) (by omega)
      have b4 : B - my < B - T := lt_of_mul hu (by rw [Int.mul_comm (R - L) (B - T)]; omega)
      unfold inSq; omega
    · have b1 : 0 ≤ (B - T) * (mx - L) := Int.mul_nonneg (by omega) (by omega)
      have b2 : 0 < B - my := (pos_mul hu).1.1 (by omega)
      have b3 : (R - L) * (B - my) ≤ (R - L) * (B - T) := Int.mul_le_mul_of_nonneg_left (by omega) (by omega)
      have b4 : mx - L < R - L := lt_of_mul hv (by rw [Int.mul_comm (B - T) (R - L)]; omega)
      unfold inSq; omega
  · unfold inSq at h
    omega
theorem sides_pos (hL : L < R) (hT : T < B) : 0 < sideZ L T R T R B ∧ 0 < sideZ L T R B L B ∧ 0 < sideZ R T R B L B ∧ 0 < sideZ R T L B L T := by
  have h : 0 < (R - L) * (B - T) := Int.mul_pos (by omega) (by omega)
  refine ⟨?_, ?_, ?_, ?_⟩
  · have : sideZ L T R T R B = (R - L) * (B - T) := by unfold sideZ; grind
    omega
  · have : sideZ L T R B L B = (R - L) * (B - T) := by unfold sideZ; grind
    omega
  · have : sideZ R T R B L B = (R - L) * (B - T) := by unfold sideZ; grind
    omega
  · have : sideZ R T L B L T = (R - L) * (B - T) := by unfold sideZ; grind
    omega
end

/-! how often the rows tell a pixel -/
def cntA (p : List (Int × Int × Int)) : Nat → Nat → Int
  | 0, _ => 0
  | k + 1, j => cntA p k j + if 64 * (p.getD k (0, 0, 0)).1 + (p.getD k (0, 0, 0)).2.1 ≤ (j : Int) ∧ (j : Int) < 64 * (p.getD k (0, 0, 0)).1 + (p.getD k (0, 0, 0)).2.2 then 1 else 0
def cntB (p : List (Int × Int × Int)) (k : Nat) (x : Int) (j : Nat) : Int :=
  cntA p k j + if 64 * (p.getD k (0, 0, 0)).1 + (p.getD k (0, 0, 0)).2.1 ≤ (j : Int) ∧ (j : Int) < 64 * (p.getD k (0, 0, 0)).1 + x then 1 else 0
theorem cntB_first (p : List (Int × Int × Int)) (k : Nat) : cntB p k (p.getD k (0, 0, 0)).2.1 = cntA p k := by
  funext j; unfold cntB; rw [if_neg (by omega)]; omega
theorem cntB_last (p : List (Int × Int × Int)) (k : Nat) : cntB p k (p.getD k (0, 0, 0)).2.2 = cntA p (k + 1) := rfl
theorem cntA_bd (p : List (Int × Int × Int)) (j : Nat) : ∀ k, 0 ≤ cntA p k j ∧ cntA p k j ≤ k
  | 0 => by simp [cntA]
  | k + 1 => by
    have := cntA_bd p j k
    simp only [cntA]; split <;> omega
theorem cntB_bd (p : List (Int × Int × Int)) (k : Nat) (x : Int) (j : Nat) : 0 ≤ cntB p k x j ∧ cntB p k x j ≤ k + 1 := by
  have := cntA_bd p j k
  unfold cntB; split <;> omega
theorem cntB_step {p : List (Int × Int × Int)} {k : Nat} {x : Int} {i : Nat} (hx : (p.getD k (0, 0, 0)).2.1 ≤ x) (hy : 0 ≤ 64 * (p.getD k (0, 0, 0)).1 + x) (hi : i = (64 * (p.getD k (0, 0, 0)).1 + x).toNat) :
    setSeg (tabOf .i64 4096 (cntB p k x)) i [.int .i64 (cntB p k x (64 * (p.getD k (0, 0, 0)).1 + x).toNat + 1)] = tabOf .i64 4096 (cntB p k (x + 1)) := by
  refine tabOf_set hi ?_ fun l hl hne => ?_
  · unfold cntB; rw [if_pos (by omega), if_neg (by omega)]; omega
  · unfold cntB
    by_cases h : 64 * (p.getD k (0, 0, 0)).1 + (p.getD k (0, 0, 0)).2.1 ≤ (l : Int) ∧ (l : Int) < 64 * (p.getD k (0, 0, 0)).1 + x
    · rw [if_pos h, if_pos (by omega)]
    · rw [if_neg h, if_neg (by omega)]

/-- rows within a picture -/
def RowsOk (p : List (Int × Int × Int)) (wd ht : Int) : Prop := ∀ i, i < p.length → (0 ≤ (p.getD i (0, 0, 0)).1 ∧ (p.getD i (0, 0, 0)).1 < ht) ∧ 0 ≤ (p.getD i (0, 0, 0)).2.1 ∧ (p.getD i (0, 0, 0)).2.1 < (p.getD i (0, 0, 0)).2.2 ∧ (p.getD i (0, 0, 0)).2.2 ≤ wd
theorem RowsIn.ok {l : List (Int × Int × Int)} {wd ht : Int} (h : RowsIn l wd ht) : RowsOk l wd ht := fun i hi => by
  have h1 := h.inn i hi
  have h2 := h.bd.2 i hi
  omega
theorem getD_app {l m : List (Int × Int × Int)} {i : Nat} : (l ++ m).getD i (0, 0, 0) = if i < l.length then l.getD i (0, 0, 0) else m.getD (i - l.length) (0, 0, 0) := by
  simp only [List.getD, List.getElem?_append]; split <;> rfl
theorem RowsOk.app {l m : List (Int × Int × Int)} {wd ht : Int} (h : RowsOk l wd ht) (h2 : RowsOk m wd ht) : RowsOk (l ++ m) wd ht := fun i hi => by
  rw [getD_app]
  split
  · exact h i (by omega)
  · exact h2 _ (by simp at hi; omega)
theorem cntA_left (l m : List (Int × Int × Int)) (j : Nat) : ∀ k, k ≤ l.length → cntA (l ++ m) k j = cntA l k j
  | 0, _ => rfl
  | k + 1, h => by
    simp only [cntA, cntA_left l m j k (by omega)]
    have e : (l ++ m).getD k (0, 0, 0) = l.getD k (0, 0, 0) := by rw [getD_app, if_pos (by omega)]
    rw [e]
theorem cntA_right (l m : List (Int × Int × Int)) (j : Nat) : ∀ k, cntA (l ++ m) (l.length + k) j = cntA l l.length j + cntA m k j
  | 0 => by rw [Nat.add_zero, cntA_left l m j _ (Nat.le_refl _)]; simp [cntA]
  | k + 1 => by
    have e : (l ++ m).getD (l.length + k) (0, 0, 0) = m.getD k (0, 0, 0) := by rw [getD_app, if_neg (by omega), show l.length + k - l.length = k by omega]
    rw [show l.length + (k + 1) = l.length + k + 1 by omega, cntA, cntA_right l m j k, cntA, e]
    omega
theorem rows_mono {l : List (Int × Int × Int)} {wd ht : Int} (h : RowsIn l wd ht) {i : Nat} : ∀ k, i + 1 + k < l.length → (l.getD i (0, 0, 0)).1 < (l.getD (i + 1 + k) (0, 0, 0)).1
  | 0, hk => h.sort i hk
  | k + 1, hk => by
    have h1 := rows_mono h (i := i) k (by omega)
    have h2 := h.sort (i + 1 + k) (by omega)
    rw [show i + 1 + (k + 1) = i + 1 + k + 1 by omega]; omega
/-- each pixel at most once, and just if a row has it -/
theorem cnt_has {l : List (Int × Int × Int)} {wd ht : Int} (h : RowsIn l wd ht) (hw : wd ≤ 64) {x y : Int} (hx : 0 ≤ x ∧ x < wd) (hy : 0 ≤ y) : cntA l l.length (64 * y + x).toNat = if hasZ l x y then 1 else 0 := by
  have ok := h.ok
  have one : ∀ i, i < l.length → ((64 * (l.getD i (0, 0, 0)).1 + (l.getD i (0, 0, 0)).2.1 ≤ ((64 * y + x).toNat : Int) ∧ ((64 * y + x).toNat : Int) < 64 * (l.getD i (0, 0, 0)).1 + (l.getD i (0, 0, 0)).2.2) ↔
      ((l.getD i (0, 0, 0)).1 = y ∧ (l.getD i (0, 0, 0)).2.1 ≤ x ∧ x < (l.getD i (0, 0, 0)).2.2)) := fun i hi => by
    have := ok i hi
    omega
  have none : ∀ k, k ≤ l.length → (∀ i, i < k → ¬ ((l.getD i (0, 0, 0)).1 = y ∧ (l.getD i (0, 0, 0)).2.1 ≤ x ∧ x < (l.getD i (0, 0, 0)).2.2)) → cntA l k (64 * y + x).toNat = 0 := by
    intro k
    induction k with
    | zero => intro _ _; rfl
    | succ k ih =>
      intro hk hn
      rw [cntA, ih (by omega) (fun i hi => hn i (by omega)), if_neg]
      · rfl
      · rw [one k (by omega)]; exact hn k (by omega)
  by_cases hh : ∃ i, i < l.length ∧ ((l.getD i (0, 0, 0)).1 = y ∧ (l.getD i (0, 0, 0)).2.1 ≤ x ∧ x < (l.getD i (0, 0, 0)).2.2)
  · obtain ⟨i, hi, hr⟩ := hh
    rw [has_true hi hr]
    have key : ∀ k, i + 1 + k ≤ l.length → cntA l (i + 1 + k) (64 * y + x).toNat = 1 := by
      intro k
      induction k with
      | zero =>
        intro _
        rw [Nat.add_zero, cntA, none i (by omega) (fun j hj hc => ?_), if_pos ((one i hi).2 hr)]
        · rfl
        · have := rows_mono h (i := j) (i - (j + 1)) (by omega)
          rw [show j + 1 + (i - (j + 1)) = i by omega] at this
          omega
      | succ k ih =>
        intro hk
        rw [show i + 1 + (k + 1) = i + 1 + k + 1 by omega, cntA, ih (by omega), if_neg]
        · rfl
        · rw [one _ (by omega)]
          have := rows_mono h (i := i) k (by omega)
          omega
    have := key (l.length - (i + 1)) (by omega)
    rw [show i + 1 + (l.length - (i + 1)) = l.length by omega] at this
    rw [this]; rfl
  · have hf : hasZ l x y = false := has_false fun i hi hr => hh ⟨i, hi, hr⟩
    rw [hf, none l.length (Nat.le_refl _) (fun i hi hr => hh ⟨i, hi, hr⟩)]; rfl

/-- the two triangles of a square, in any order of their points -/
structure SqT (L T R B wd ht : Int) (l m : List (Int × Int × Int)) : Prop where
  wide : L < R ∧ T < B
  is : (covRows L T R T R B wd ht = l ∧ covRows L T R B L B wd ht = m) ∨ (covRows R T R B L B wd ht = l ∧ covRows R T L B L T wd ht = m)
theorem SqT.bd {L T R B wd ht : Int} {l m : List (Int × Int × Int)} (h : SqT L T R B wd ht l m) : RowsIn l wd ht ∧ RowsIn m wd ht := by
  rcases h.is with ⟨h1, h2⟩ | ⟨h1, h2⟩ <;> exact ⟨covRows_in h1, covRows_in h2⟩
theorem SqT.count {L T R B wd ht : Int} {l m : List (Int × Int × Int)} (h : SqT L T R B wd ht l m) (hw : 1 ≤ wd ∧ wd ≤ 64) (hh : 1 ≤ ht ∧ ht ≤ 64) {x y : Int} (hx : 0 ≤ x ∧ x < wd) (hy : 0 ≤ y ∧ y < ht) :
    cntA (l ++ m) (l ++ m).length (64 * y + x).toNat = if inSq L T R B (16 * x + 8) (16 * y + 8) then 1 else 0 := by
  have hb := h.bd
  have hp : Pic wd ht := by unfold Pic; omega
  have hout : ¬ (x < 0 ∨ y < 0 ∨ 1024 ≤ x ∨ 1024 ≤ y) := by omega
  obtain ⟨s1, s2, s3, s4⟩ := sides_pos h.wide.1 h.wide.2
  have hin : decide (0 ≤ x ∧ x < wd ∧ 0 ≤ y ∧ y < ht) = true := decide_eq_true (by omega)
  rw [List.length_append, cntA_right, cnt_has hb.1 hw.2 hx hy.1, cnt_has hb.2 hw.2 hx hy.1]
  have fin : ∀ (p q : Bool), ((p = true ∨ q = true ↔ inSq L T R B (16 * x + 8) (16 * y + 8)) ∧ ¬ (p = true ∧ q = true)) → ((if p then (1 : Int) else 0) + if q then 1 else 0) = if inSq L T R B (16 * x + 8) (16 * y + 8) then 1 else 0 := by
    intro p q ⟨h1, h2⟩
    by_cases hs : inSq L T R B (16 * x + 8) (16 * y + 8)
    · rw [if_pos hs]
      have := h1.2 hs
      cases p <;> cases q <;> simp_all
    · rw [if_neg hs]
      cases p <;> cases q <;> simp_all
  rcases h.is with ⟨h1, h2⟩ | ⟨h1, h2⟩
  · subst h1; subst h2
    rw [has_cov hp, has_cov hp, hin, Bool.true_and, Bool.true_and, coversZ_in3 hout s1, coversZ_in3 hout s2]
    exact fin _ _ (sq_one h.wide.1 h.wide.2)
  · subst h1; subst h2
    rw [has_cov hp, has_cov hp, hin, Bool.true_and, Bool.true_and, coversZ_in3 hout s3, coversZ_in3 hout s4]
    exact fin _ _ (sq_two h.wide.1 h.wide.2)
end Go.SK
