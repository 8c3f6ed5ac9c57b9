/-
  Steps of functions, plain law, and walks of functions: what the laws rest on.
-/
import Derived.Test.YtalnjboddfedjaaDoorSkG0b
import Derived.Test.YtalnjboddfedjaaDoorSkG2a
import Derived.Test.YtalnjboddfedjaaDoorSkG4a
import Derived.Test.YtalnjboddfedjaaDoorSkG5a
set_option linter.unusedVariables false
set_option linter.unusedSimpArgs false
set_option linter.unusedSectionVars false
namespace Go.SK
theorem runF_self {s : Tx} (h : s.all runB = true) : runF s = s := by
  unfold runF
  induction s with
  | nil => rfl
  | cons c r ih =>
    rw [List.all_cons, Bool.and_eq_true] at h
    rw [List.takeWhile_cons, if_pos h.1, ih h.2]
theorem digs_all : ∀ (s : Tx) (a n : Nat), digsF s a = some n → s.all digB = true
  | [], a, n, _ => rfl
  | c :: r, a, n, h => by
    rw [digsF] at h; split at h
    · rename_i hc; rw [List.all_cons, hc, digs_all r _ n h]; rfl
    · cases h
theorem dig_run_all {s : Tx} (h : s.all digB = true) : s.all runB = true := by
  rw [List.all_eq_true] at h ⊢; intro c hc; exact run_d (h c hc)
theorem plain_all {s : Tx} {n : Nat} (h : plainF s = some n) : 0 < s.length ∧ s.all digB = true := by
  by_cases hb : badP s
  · have := (plR_bad hb).2; rw [h] at this; cases this
  · cases hd : digsF s 0 with
    | none => have := (plR_none hb hd).2; rw [h] at this; cases this
    | some m => exact ⟨by unfold badP at hb; omega, digs_all s 0 m hd⟩
theorem all_drop {p : UInt8 → Bool} {s : Tx} (n : Nat) (h : s.all p = true) : (s.drop n).all p = true := by
  rw [List.all_eq_true] at h ⊢; intro c hc; exact h c (List.mem_of_mem_drop hc)
theorem all_get {p : UInt8 → Bool} {s : Tx} {i : Nat} (h : s.all p = true) (hi : i < s.length) : p (s.getD i 0) = true := by
  rw [List.all_eq_true] at h
  have : s.getD i 0 = s[i] := by simp [List.getD, hi]
  rw [this]; exact h _ (List.getElem_mem hi)
theorem num_shape {s : Tx} (h : (numLx s).2 = 0) : 0 < s.length ∧ (digB (s.getD 0 0) = true ∨ (s.getD 0 0).toNat = 45) ∧ runF (s.drop 1) = s.drop 1 := by
  cases hp : plainF s with
  | some n =>
    obtain ⟨h0, ha⟩ := plain_all hp
    exact ⟨h0, .inl (all_get ha h0), runF_self (dig_run_all (all_drop 1 ha))⟩
  | none =>
    by_cases hm : 1 < s.length ∧ (s.getD 0 0).toNat = 45
    · cases hq : plainF (s.drop 1) with
      | none => rw [numF_minusBad hp hm (fun n hn => by rw [hq] at hn; cases hn)] at h; cases h
      | some n => exact ⟨by omega, .inr hm.2, runF_self (dig_run_all (plain_all hq).2)⟩
    · by_cases hb : s.length < 3 ∨ 10 < s.length ∨ (s.getD 0 0).toNat ≠ 48 ∨ (s.getD 1 0).toNat ≠ 120
      · rw [numF_bad hp hm hb] at h; cases h
      · cases hx : hexsF (s.drop 2) 0 with
        | none => rw [numF_hexBad hp hm hb hx] at h; cases h
        | some n =>
          refine ⟨by omega, .inl (decide_eq_true (by omega)), ?_⟩
          have h1 := (hexs_run _ _ _ hx).1
          rw [dropC (show 1 < s.length by omega)]
          have hr : runB (s.getD 1 0) = true := by
            unfold runB letB; rw [Bool.or_eq_true, decide_eq_true_eq]; omega
          unfold runF at h1 ⊢
          rw [List.takeWhile_cons, if_pos hr, h1]
theorem hex_back {n : Nat} (h : n < 16) : hexB (hexD n) = true ∧ worF (hexD n) = n := by
  have : ∀ n < 16, hexB (hexD n) = true ∧ worF (hexD n) = n := by decide
  exact this n h
theorem part_quo (c : UInt8) (z : Tx) : partF (quoC c ++ z) = some (c, (quoC c).length) ∧ ((quoC c ++ z).getD 0 0).toNat ≠ 34 := by
  have hc := c.toNat_lt
  by_cases h1 : c.toNat < 32 ∨ 126 < c.toNat
  · rw [quoC_hex h1]
    refine ⟨?_, by show (92 : UInt8).toNat ≠ 34; decide⟩
    have hh1 := hex_back (n := c.toNat / 16) (by omega)
    have hh2 := hex_back (n := c.toNat % 16) (by omega)
    have := part_four (s := [92, 120, hexD (c.toNat / 16), hexD (c.toNat % 16)] ++ z) (a := 0) (by simp) rfl (by simp) rfl hh1.1 hh2.1
    rw [List.drop_zero] at this
    rw [this]
    have e : UInt8.ofNat (16 * worF (hexD (c.toNat / 16)) + worF (hexD (c.toNat % 16))) = c := by
      rw [hh1.2, hh2.2]; apply UInt8.toNat_inj.1; rw [UInt8.toNat_ofNat']; omega
    exact congrArg some (Prod.ext e rfl)
  · by_cases h2 : c.toNat = 34 ∨ c.toNat = 92
    · rw [quoC_esc h1 h2]
      refine ⟨?_, by show (92 : UInt8).toNat ≠ 34; decide⟩
      have := part_two (s := [92, c] ++ z) (a := 0) (by simp) rfl (by simp) h2
      rw [List.drop_zero] at this
      rw [this]; rfl
    · rw [quoC_one h1 h2]
      refine ⟨?_, by show c.toNat ≠ 34; omega⟩
      have := part_one (s := [c] ++ z) (a := 0) (by simp) (by show ¬ (c.toNat < 32 ∨ 126 < c.toNat ∨ c.toNat = 34); omega) (by show c.toNat ≠ 92; omega)
      rw [List.drop_zero] at this
      rw [this]; rfl
theorem quo_read (y : Tx) : ∀ (s : Tx) (n : Nat), (s.flatMap quoC ++ 34 :: y).length ≤ n → quoN n (s.flatMap quoC ++ 34 :: y) = some (s, (s.flatMap quoC).length + 1)
  | [], n, h => by
    cases n with
    | zero => simp at h
    | succ n => rw [List.flatMap_nil, List.nil_append, quoN, if_neg (by simp), if_pos (show ((34 :: y).getD 0 0).toNat = 34 from rfl)]; rfl
  | c :: r, n, h => by
    rw [List.flatMap_cons, List.append_assoc] at h ⊢
    obtain ⟨h1, h2⟩ := part_quo c (r.flatMap quoC ++ 34 :: y)
    have hl := (quoC_len c).1
    cases n with
    | zero => rw [List.length_append] at h; omega
    | succ n =>
      rw [quoN, if_neg (by rw [List.length_append]; omega), if_neg h2, h1]
      dsimp only
      rw [List.drop_left, quo_read y r n (by rw [List.length_append] at h; omega)]
      simp only [Option.map_some, List.length_append]
      congr 2
theorem wr_read {t : TokL} {x y : Tx} (h : wrT t = some x) (hy : y.length = 0 ∨ (y.getD 0 0).toNat = 32) : tokF (x ++ y) = .ok (t.kind, t.text, x.length) ∧ 0 < x.length ∧ ¬ blankB (x.getD 0 0) = true ∧ ¬ (x.getD 0 0).toNat = 59 := by
  have hyr : y.length = 0 ∨ ¬ runB (y.getD 0 0) = true := hy.imp id fun h32 => by
    unfold runB letB digB; rw [Bool.or_eq_true, decide_eq_true_eq, decide_eq_true_eq]; omega
  unfold wrT at h
  split at h
  · rename_i hk
    split at h
    · rename_i hq; cases h
      have e0 : (t.text ++ y).getD 0 0 = t.text.getD 0 0 := getD_app hq.1
      have := tok_word (s := t.text ++ y) (a := 0) (by rw [e0]; exact hq.2.1)
      rw [List.drop_zero, runF_app hyr, hq.2.2] at this
      exact ⟨by rw [this, hk], hq.1, f_no (let_blank hq.2.1), let_ne hq.2.1 (by omega)⟩
    · cases h
  split at h
  · rename_i hk
    split at h
    · rename_i hq; cases h
      obtain ⟨n, hn⟩ := isSome_ex hq
      have hr : runF (((37 :: t.text) ++ y).drop (0 + 1)) = t.text := by
        show runF (t.text ++ y) = t.text
        rw [runF_app hyr, runF_self (dig_run_all (plain_all hn).2)]
      have := tok_idOk (s := (37 :: t.text) ++ y) (a := 0) rfl (by rw [hr]; exact hq)
      rw [List.drop_zero, hr] at this
      exact ⟨by rw [this, hk]; rfl, by simp, by show ¬ blankB 37 = true; decide, by show ¬ (37 : UInt8).toNat = 59; decide⟩
    · cases h
  split at h
  · rename_i hk
    split at h
    · rename_i hq; cases h
      obtain ⟨h0, h1, h2⟩ := num_shape hq
      have e0 : (t.text ++ y).getD 0 0 = t.text.getD 0 0 := getD_app h0
      have e1 : (t.text ++ y).drop (0 + 1) = t.text.drop 1 ++ y := by
        show (t.text ++ y).drop 1 = _
        rw [List.drop_append_of_le_length (by omega)]
      have e2 : ((t.text ++ y).drop 0).take (1 + (runF ((t.text ++ y).drop (0 + 1))).length) = t.text := by
        rw [e1, runF_app hyr, h2, List.drop_zero, List.length_drop, show 1 + (t.text.length - 1) = t.text.length by omega, List.take_left]
      have := tok_numOk (s := t.text ++ y) (a := 0) (by rw [e0]; exact h1) e2 hq
      rw [List.drop_zero] at this
      refine ⟨by rw [this, hk], h0, ?_, ?_⟩
      · rcases h1 with h1 | h1
        · exact f_no (dig_blank h1)
        · unfold blankB; simp only [decide_eq_true_eq]; omega
      · rcases h1 with h1 | h1
        · have := dig_bd h1; omega
        · omega
    · cases h
  split at h
  · rename_i hk; cases h
    have hl : (quoteF t.text).length = (t.text.flatMap quoC).length + 2 := by unfold quoteF; simp
    have hq : quoA (quoteF t.text ++ y) (0 + 1) = some (t.text, (t.text.flatMap quoC).length + 1) := by
      unfold quoA
      have e : (quoteF t.text ++ y).drop (0 + 1) = t.text.flatMap quoC ++ 34 :: y := by unfold quoteF; simp
      rw [e]
      exact quo_read y t.text _ (by rw [← e, List.length_drop]; exact Nat.le_refl _)
    have := tok_strOk (s := quoteF t.text ++ y) (a := 0) rfl (by rw [hq]; exact Nat.succ_ne_zero _)
    rw [List.drop_zero, hq] at this
    refine ⟨?_, by rw [hl]; omega, by show ¬ blankB 34 = true; decide, by show ¬ (34 : UInt8).toNat = 59; decide⟩
    rw [this, hk, hl]; rfl
  split at h
  · rename_i hk
    split at h
    · rename_i hq; cases h
      have := tok_eq (s := [61] ++ y) (a := 0) rfl
      rw [List.drop_zero] at this
      exact ⟨by rw [this, hk, hq]; rfl, by simp, by show ¬ blankB 61 = true; decide, by show ¬ (61 : UInt8).toNat = 59; decide⟩
    · cases h
  · cases h
def retok : List TokL → List Tx → Nat → List TokL
  | t :: r, x :: xs, k => ⟨t.kind, t.text, (k : Int)⟩ :: retok r xs (k + x.length + 1)
  | _, _, _ => []
theorem retok_len : ∀ (l : List TokL) (o : List Tx) (k : Nat), wrL l = some o → (retok l o k).length = l.length ∧ o.length = l.length
  | [], o, k, h => by cases h; exact ⟨rfl, rfl⟩
  | t :: r, o, k, h => by
    rw [wrL] at h
    cases ht : wrT t with
    | none => rw [ht] at h; cases h
    | some x =>
      rw [ht, Option.bind_some] at h
      cases hr : wrL r with
      | none => rw [hr] at h; cases h
      | some xs =>
        rw [hr] at h; cases h
        have := retok_len r xs (k + x.length + 1) hr
        exact ⟨by show (retok r xs _).length + 1 = _; rw [this.1]; rfl, by show xs.length + 1 = _; rw [this.2]; rfl⟩
theorem toks_join : ∀ (l : List TokL) (o : List Tx) (n k : Nat), wrL l = some o → (Lib.join o [32]).length ≤ n → toksN n (Lib.join o [32]) k = (retok l o k, (0, 0))
  | [], o, n, k, h, _ => by
    cases h
    cases n with
    | zero => rfl
    | succ n => rw [join_nil', toksN, if_pos (.inl rfl)]; rfl
  | t :: r, o, n, k, h, hn => by
    rw [wrL] at h
    cases ht : wrT t with
    | none => rw [ht] at h; cases h
    | some x =>
      rw [ht, Option.bind_some] at h
      cases hr : wrL r with
      | none => rw [hr] at h; cases h
      | some xs =>
        rw [hr] at h; cases h
        cases xs with
        | nil =>
          rw [join_one'] at hn ⊢
          obtain ⟨h1, h2, h3, h4⟩ := wr_read (y := []) ht (.inl rfl)
          rw [List.append_nil] at h1
          cases n with
          | zero => omega
          | succ n =>
            rw [toksN, if_neg (by omega), if_neg h3, h1]
            dsimp only
            rw [List.drop_length]
            have : toksN n [] (k + x.length) = ([], (0, 0)) := by cases n <;> rfl
            rw [this, if_pos rfl]
            cases r with
            | nil => rfl
            | cons t2 r2 => have := (retok_len _ _ 0 hr).2; cases this
        | cons x2 xs2 =>
          rw [join_cons] at hn ⊢
          obtain ⟨h1, h2, h3, h4⟩ := wr_read (y := 32 :: Lib.join (x2 :: xs2) [32]) ht (.inr rfl)
          have e0 : (x ++ 32 :: Lib.join (x2 :: xs2) [32]).getD 0 0 = x.getD 0 0 := getD_app h2
          rw [List.length_append, List.length_cons] at hn
          cases n with
          | zero => omega
          | succ n =>
            rw [toksN, e0, if_neg (by rw [List.length_append]; omega), if_neg h3, h1]
            dsimp only
            rw [List.drop_left]
            cases n with
            | zero => omega
            | succ n =>
              have e2 : toksN (n + 1) (32 :: Lib.join (x2 :: xs2) [32]) (k + x.length) = toksN n (Lib.join (x2 :: xs2) [32]) (k + x.length + 1) := by
                rw [toksN, if_neg (show ¬ ((32 :: Lib.join (x2 :: xs2) [32]).length = 0 ∨ ((32 :: Lib.join (x2 :: xs2) [32]).getD 0 0).toNat = 59) from fun q => q.elim (fun q => by simp at q) (fun q => absurd (show (32 : UInt8).toNat = 59 from q) (by decide))), if_pos (show blankB ((32 :: Lib.join (x2 :: xs2) [32]).getD 0 0) = true from (show blankB 32 = true by decide))]; rfl
              rw [e2, toks_join r (x2 :: xs2) n (k + x.length + 1) hr (by omega), if_pos rfl]; rfl
theorem forth_toks {l : List TokL} {o : List Tx} (h : wrL l = some o) : toksF (Lib.join o [32]) = (retok l o 0, (0, 0)) := toks_join l o _ 0 h (Nat.le_refl _)
end Go.SK
