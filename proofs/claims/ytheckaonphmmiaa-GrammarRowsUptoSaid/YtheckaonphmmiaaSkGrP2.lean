/-
  Plain law: what fits.
-/
import Derived.Test.YtheckaonphmmiaaSkGrP
import Derived.Test.YtheckaonphmmiaaSkQ
set_option linter.unusedVariables false
set_option linter.unusedSimpArgs false
namespace Go.SK
/-! what fits -/
abbrev u8C (x : Int) : List Value := [.int .u8 x]
theorem u8C_len (x : Int) : (u8C x).length = 1 := rfl
abbrev badB (f : FormL) (i : Nat) (k : Int) : Prop := k = 0 ∨ kindS (letterS f i) ≠ k
def badI (f : FormL) : Nat → List Int → Option Nat
  | _, [] => none
  | i, k :: ks => if badB f i k then some i else badI f (i + 1) ks
theorem bad_hit {f : FormL} {ks : List Int} {i : Nat} {R : Option Nat} (h : badI f i (ks.drop i) = R) (hi : i < ks.length) (hb : badB f i (ks.getD i 0)) : R = some i := by
  rw [List.drop_eq_getElem_cons hi, badI] at h
  simp only [List.getD, List.getElem?_eq_getElem hi, Option.getD_some] at hb
  rw [if_pos hb] at h; exact h.symm
theorem bad_miss {f : FormL} {ks : List Int} {i : Nat} {R : Option Nat} (h : badI f i (ks.drop i) = R) (hi : i < ks.length) (hb : ¬ badB f i (ks.getD i 0)) : badI f (i + 1) (ks.drop (i + 1)) = R := by
  rw [List.drop_eq_getElem_cons hi, badI] at h
  simp only [List.getD, List.getElem?_eq_getElem hi, Option.getD_some] at hb
  rwa [if_neg hb] at h
theorem bad_end {f : FormL} {ks : List Int} {i : Nat} {R : Option Nat} (h : badI f i (ks.drop i) = R) (hi : ks.length ≤ i) : R = none := by
  rw [List.drop_eq_nil_of_le hi, badI] at h; exact h.symm
abbrev offR (f : FormL) (n : Nat) : Prop := (n : Int) - f.fixed.length < 0 ∨ (f.rest ≠ [] ∧ ((n : Int) - f.fixed.length) % f.rest.length ≠ 0)
def fitsF (f : FormL) (ks : List Int) : Int × Bool := match badI f 0 ks with
  | some i => ((i : Int), false)
  | none => if offR f ks.length then ((ks.length : Int), false) else (0, true)
def fitsS (op : Int) (ks : List Int) : Int × Bool := if (refS op).isSome then fitsF (refD op) ks else (0, false)
abbrev fitsV (p : Int × Bool) : Value := .tuple #[.int .i64 p.1, .bool p.2]
theorem fits_no {op : Int} {ks : List Int} {ob : Bool} (h : (refS op).isSome = ob) (ho : ob = false) : fitsS op ks = (0, false) := by
  unfold fitsS; rw [h, ho]; rfl
theorem fits_yes {op : Int} {ks : List Int} {fm : FormL} {ob : Bool} (h : (refS op).isSome = ob) (hf : refD op = fm) (ho : ob = true) : fitsS op ks = fitsF fm ks := by
  unfold fitsS; rw [h, ho, hf]; rfl
theorem fitsF_bad {f : FormL} {ks : List Int} {i : Nat} (h : badI f 0 ks = some i) : fitsF f ks = ((i : Int), false) := by unfold fitsF; rw [h]
theorem fitsF_off {f : FormL} {ks : List Int} (h : badI f 0 ks = none) (ho : offR f ks.length) : fitsF f ks = ((ks.length : Int), false) := by unfold fitsF; rw [h]; simp only; rw [if_pos ho]
theorem fitsF_on {f : FormL} {ks : List Int} (h : badI f 0 ks = none) (ho : ¬ offR f ks.length) : fitsF f ks = (0, true) := by unfold fitsF; rw [h]; simp only; rw [if_neg ho]
theorem letters_small : refT.all (fun f => (f.fixed ++ f.rest).all fun c => decide (kindS c.toNat ≠ 0)) = true := by decide +kernel
theorem refD_kind (op i : Int) (h : letterS (refD op) i ≠ 0) : kindS (letterS (refD op) i) ≠ 0 := by
  cases hr : refS op with
  | none =>
    have : refD op = zeroF := by rw [refD, hr]; rfl
    rw [this, letter_zero] at h; exact absurd rfl h
  | some f =>
    have e : refD op = f := by rw [refD, hr]; rfl
    rw [e] at h ⊢
    have hall := List.all_eq_true.1 letters_small f (refF_mem hr).1
    rw [List.all_eq_true] at hall
    have key : ∀ c ∈ f.fixed ++ f.rest, kindS (c.toNat : Int) ≠ 0 := fun c hc => by simpa only [decide_eq_true_eq] using hall c hc
    unfold letterS at h ⊢
    split at h
    · exact absurd rfl h
    · rename_i h0
      rw [if_neg h0]
      split at h
      · rename_i h1
        rw [if_pos h1]
        have hi : i.toNat < f.fixed.length := by omega
        simp only [List.getD, List.getElem?_eq_getElem hi, Option.getD_some]
        exact key _ (List.mem_append_left _ (List.getElem_mem hi))
      · rename_i h1
        rw [if_neg h1]
        unfold restS at h ⊢
        split at h
        · exact absurd rfl h
        · rename_i h2
          rw [if_neg h2]
          have hr2 : 0 < f.rest.length := List.length_pos_iff.2 (fun e => h2 (.inr (.inl e)))
          have hm := Int.emod_lt_of_pos (i - (f.fixed.length : Int)) (show (0 : Int) < f.rest.length by omega)
          have hn := Int.emod_nonneg (i - (f.fixed.length : Int)) (show (f.rest.length : Int) ≠ 0 by omega)
          have hi : ((i - (f.fixed.length : Int)) % (f.rest.length : Int)).toNat < f.rest.length := by omega
          simp only [List.getD, List.getElem?_eq_getElem hi, Option.getD_some]
          exact key _ (List.mem_append_right _ (List.getElem_mem hi))
theorem kind_zero : kindS 0 = 0 := by decide +kernel
theorem bad_ref {op : Int} {fm : FormL} (hf : refD op = fm) {i : Nat} {k : Int} : (letterS fm i = 0 ∨ kindS (letterS fm i) ≠ k) ↔ badB fm i k := by
  subst hf
  constructor
  · rintro (h | h)
    · by_cases hk : k = 0
      · exact .inl hk
      · right; rw [h, kind_zero]; exact fun e => hk e.symm
    · exact .inr h
  · rintro (h | h)
    · by_cases hl : letterS (refD op) i = 0
      · exact .inl hl
      · right; rw [h]; exact refD_kind op i hl
    · exact .inr h
/-- where the rest's rows end -/
theorem off_iff {f : FormL} {n : Nat} {m : Nat} {t : Nat} (hm : m = f.fixed.length + t * f.rest.length) (hge : n ≤ m) (hlt : m < n + f.rest.length ∨ t = 0) (hno : f.rest = [] → n ≤ f.fixed.length) : (m ≠ n) ↔ offR f n := by
  by_cases hr : f.rest = []
  · have h0 : f.rest.length = 0 := by rw [hr]; rfl
    have := hno hr
    rw [h0] at hm
    simp only [offR]
    constructor
    · intro h; left; omega
    · rintro (h | h)
      · omega
      · exact absurd hr h.1
  · have hrl : 0 < f.rest.length := List.length_pos_iff.2 hr
    have key : ((n : Int) - f.fixed.length) = (t : Int) * f.rest.length - ((m : Int) - n) := by
      have : (m : Int) = f.fixed.length + (t : Int) * f.rest.length := by rw [hm]; simp
      omega
    simp only [offR]
    by_cases ht : t = 0
    · subst ht
      have : m = f.fixed.length := by simpa using hm
      constructor
      · intro h; left; omega
      · rintro (h | ⟨_, h⟩)
        · omega
        · intro e; apply h; rw [show (n : Int) - f.fixed.length = 0 by omega]; simp
    · have hlt' : m < n + f.rest.length := hlt.resolve_right ht
      constructor
      · intro h
        right
        refine ⟨hr, ?_⟩
        rw [key, show (t : Int) * f.rest.length - ((m : Int) - n) = (f.rest.length - ((m : Int) - n)) + f.rest.length * ((t : Int) - 1) by rw [Int.mul_sub, Int.mul_comm (f.rest.length : Int) t]; omega, Int.add_mul_emod_self_left, Int.emod_eq_of_lt (by omega) (by omega)]
        omega
      · rintro (h | ⟨_, h⟩) e
        · have : f.fixed.length ≤ m := by rw [hm]; exact Nat.le_add_right _ _
          omega
        · apply h
          rw [key, show (m : Int) - n = 0 by omega, Int.sub_zero]
          exact Int.mul_emod_left _ _
/-- no letter, no kind -/
theorem bad_long {f : FormL} {ks : List Int} (hr : f.rest = []) (h : badI f 0 ks = none) : ks.length ≤ f.fixed.length := by
  refine Classical.byContradiction fun hn => ?_
  have key : ∀ i, i ≤ f.fixed.length → badI f i (ks.drop i) = none := by
    intro i
    induction i with
    | zero => intro _; exact h
    | succ i ih =>
      intro hi
      have h1 := ih (by omega)
      refine bad_miss h1 (by omega) fun hb => ?_
      have := bad_hit h1 (by omega) hb
      cases this
  have h1 := key f.fixed.length (Nat.le_refl _)
  have hb : badB f f.fixed.length (ks.getD f.fixed.length 0) := by
    have hl : letterS f (f.fixed.length : Int) = 0 := by
      unfold letterS
      rw [if_neg (by omega), if_neg (by omega)]
      unfold restS; rw [if_pos (.inr (.inl hr))]
    by_cases hk : ks.getD f.fixed.length 0 = 0
    · exact .inl hk
    · right; rw [hl, kind_zero]; exact fun e => hk e.symm
  have := bad_hit h1 (by omega) hb
  cases this
/-! a slice copied, element by element -/
theorem flat_u8 (l : List Int) : l.flatMap u8C = l.map (Value.int .u8) := by
  induction l with
  | nil => rfl
  | cons a l ih => rw [List.flatMap_cons, ih]; rfl
def cpL (ks : List Int) (i : Nat) : List Int := ks.take i ++ List.replicate (ks.length - i) 0
theorem cp_zero (ks : List Int) : zerosOf [.int .u8 0] ks.length = (cpL ks 0).flatMap u8C := by
  rw [flat_u8]; unfold cpL zerosOf
  simp only [List.take_zero, List.nil_append, Nat.sub_zero, List.map_replicate]
  generalize ks.length = n
  induction n with
  | zero => rfl
  | succ n ih => rw [List.range_succ, List.flatMap_append, ih, List.replicate_succ']; rfl
theorem cp_all (ks : List Int) : cpL ks ks.length = ks := by simp [cpL]
theorem cp_step {ks : List Int} {i : Nat} (h : i < ks.length) : setSeg ((cpL ks i).flatMap u8C) (0 + (i : Int).toNat * 1) [.int .u8 (ks.getD (i : Int).toNat 0)] = (cpL ks (i + 1)).flatMap u8C := by
  rw [flat_u8, flat_u8]
  simp only [setSeg, Int.toNat_natCast, Nat.mul_one, Nat.zero_add]
  unfold cpL
  apply List.ext_getElem
  · simp; omega
  · intro j h1 h2
    by_cases hj : i = j
    · subst hj
      have h3 : i < min (i + 1) ks.length := by omega
      simp only [List.getElem_set_self, List.getElem_map, List.getElem_append, List.length_take, h3, dif_pos, List.getElem_take]
      simp [List.getD, h]
    · rw [List.getElem_set_ne hj]
      simp only [List.getElem_map, List.getElem_append, List.length_take, List.getElem_take, List.getElem_replicate]
      congr 1
      by_cases h3 : j < i
      · simp [show j < min i ks.length by omega, show j < min (i + 1) ks.length by omega]
      · simp [show ¬ j < min i ks.length by omega, show ¬ j < min (i + 1) ks.length by omega]
theorem cp_len {ks : List Int} {i : Nat} (h : i ≤ ks.length) : (cpL ks i).length = ks.length := by simp [cpL]; omega
/-! arguments: slices of bytes -/
section
open Go.RowKit Go.ChangeShapes Go.WideShapes Go.ChangeAt
theorem open_u8 {H : Type} {enc : TypeId × Value → H} {P : Program} {w : World} {base : Nat} {spare : Nat → Bool} {held : Bool} {e : TypeId} (he : P.underlying e = some (.int .u8)) :
    ∀ fuel cs (y : DataW H × List MemPlace), DataW.trod enc P w base spare held fuel e cs = some y → ∃ a : Int, cs = u8C a ∧ (0 ≤ a ∧ a ≤ 255) ∧ True := fun fuel cs y h => by
  obtain ⟨n, rfl, _, hw⟩ := DataW.trod_int he h
  refine ⟨n, rfl, ?_, trivial⟩
  simpa [Lit.wf, IntKind.min, IntKind.max, IntKind.signed, IntKind.bits] using hw
end
/-! a row more; what stands behind -/
theorem badI_app {f : FormL} {ts : List Int} : ∀ (ks : List Int) (i : Nat), badI f i (ks ++ ts) = match badI f i ks with
    | some j => some j
    | none => badI f (i + ks.length) ts
  | [], i => by simp [badI]
  | k :: ks, i => by
    simp only [List.cons_append, badI]
    by_cases h : badB f i k
    · rw [if_pos h, if_pos h]
    · rw [if_neg h, if_neg h, badI_app ks (i + 1), List.length_cons, show i + 1 + ks.length = i + (ks.length + 1) by omega]
theorem fitsF_true {f : FormL} {ks : List Int} {a : Int} (h : fitsF f ks = (a, true)) : badI f 0 ks = none ∧ ¬ offR f ks.length := by
  unfold fitsF at h
  cases hb : badI f 0 ks with
  | some i => rw [hb] at h; simp at h
  | none =>
    rw [hb] at h
    refine ⟨rfl, fun ho => ?_⟩
    simp only at h
    rw [if_pos ho] at h
    simp at h
abbrev kindU (c : UInt8) : Int := kindS (c.toNat : Int)
theorem badI_none {f : FormL} {i : Nat} : ∀ {ts : List Int}, (∀ j (hj : j < ts.length), ¬ badB f (i + j) ts[j]) → badI f i ts = none
  | [], _ => rfl
  | k :: ts, h => by
    rw [badI, if_neg (show ¬ badB f i k from h 0 (by simp))]
    exact badI_none (i := i + 1) fun j hj => by
      have := h (j + 1) (by simpa using hj)
      rw [show i + 1 + j = i + (j + 1) by omega]
      exact this
theorem fits_more {op : Int} {fm : FormL} {ob : Bool} {ks : List Int} {a : Int} (hob : (refS op).isSome = ob) (hfm : refD op = fm) (h : fitsS op ks = (a, true)) : ob = true ∧ (fm.most = 0 → fitsS op (ks ++ fm.rest.map kindU) = (0, true)) := by
  have ho : ob = true := by
    cases ob with
    | true => rfl
    | false => rw [fits_no hob rfl] at h; simp at h
  refine ⟨ho, fun hm => ?_⟩
  rw [fits_yes hob hfm ho] at h ⊢
  obtain ⟨h1, h2⟩ := fitsF_true h
  simp only [offR] at h2
  have hge : fm.fixed.length ≤ ks.length := by
    refine Classical.byContradiction fun hn => h2 (.inl (by omega))
  by_cases hr : fm.rest = []
  · rw [hr, List.map_nil, List.append_nil]
    exact fitsF_on h1 h2
  · have hrl : 0 < fm.rest.length := List.length_pos_iff.2 hr
    have hmod : ((ks.length : Int) - fm.fixed.length) % fm.rest.length = 0 := Classical.byContradiction fun hn => h2 (.inr ⟨hr, hn⟩)
    refine fitsF_on ?_ ?_
    · rw [badI_app, h1]
      simp only [Nat.zero_add]
      refine badI_none fun j hj => ?_
      simp only [List.length_map] at hj
      have hl : letterS fm ((ks.length + j : Nat) : Int) = (fm.rest[j].toNat : Int) := by
        unfold letterS
        rw [if_neg (by omega), if_neg (by omega)]
        unfold restS
        rw [if_neg (by rw [hm]; rintro (h | h | h) <;> first | omega | exact hr h)]
        have hj2 : (((ks.length + j : Nat) : Int) - fm.fixed.length) % fm.rest.length = j := by
          rw [show ((ks.length + j : Nat) : Int) - fm.fixed.length = (j : Int) + ((ks.length : Int) - fm.fixed.length) by omega, Int.add_emod, hmod, Int.add_zero, Int.emod_emod, Int.emod_eq_of_lt (by omega) (by omega)]
        rw [hj2]
        simp [List.getD, hj]
      have hne : kindU fm.rest[j] ≠ 0 := by
        have := refD_kind op ((ks.length + j : Nat) : Int)
        rw [hfm, hl] at this
        refine this fun e => ?_
        have hf := refD_fok op
        rw [hfm] at hf
        exact hf.rest0 _ (List.getElem_mem hj) (UInt8.toNat_inj.1 (by simpa using (by omega : fm.rest[j].toNat = 0)))
      rw [List.getElem_map]
      rintro (h | h)
      · exact hne h
      · rw [hl] at h; exact h rfl
    · simp only [offR, List.length_append, List.length_map]
      rintro (h | ⟨_, h⟩)
      · omega
      · apply h
        rw [show ((ks.length + fm.rest.length : Nat) : Int) - fm.fixed.length = ((ks.length : Int) - fm.fixed.length) + fm.rest.length by omega, Int.add_emod_right, hmod]
theorem fits_behind {op : Int} {ks ms : List Int} {a : Int} (h : fitsS op ks = (a, false)) (ha : a < ks.length) : fitsS op (ks ++ ms) = (a, false) := by
  unfold fitsS at h ⊢
  split at h
  · rename_i ho
    rw [if_pos ho]
    unfold fitsF at h ⊢
    rw [badI_app]
    cases hb : badI (refD op) 0 ks with
    | some i => rw [hb] at h; simpa using h
    | none =>
      rw [hb] at h
      simp only at h
      split at h
      · simp at h; omega
      · simp at h
  · rename_i ho
    rw [if_neg ho]; exact h
theorem fits_128 : fitsS 128 [1, 1] = (0, true) := by decide +kernel
theorem rows_step {ks : List Int} {r : Byts} {i : Nat} (h : i < r.length) : (ks ++ (r.take (i + 1)).map kindU).flatMap u8C = (ks ++ (r.take i).map kindU).flatMap u8C ++ u8C (kindU (r.getD i 0)) := by
  rw [take_getD (d := 0) h, List.map_append, ← List.append_assoc, List.flatMap_append]; rfl

end Go.SK
