/-
  Steps of functions, plain law, and walks of functions: what the laws rest on.
-/
import Derived.Test.YtglmmdpeenckbaaGreatDoorSkG0b
set_option linter.unusedVariables false
set_option linter.unusedSimpArgs false
set_option linter.unusedSectionVars false
namespace Go.SK
theorem f_no {b : Bool} (h : b = false) : ¬ b = true := by rw [h]; decide
theorem drop_get0 (s : Tx) (a : Nat) : (s.drop a).getD 0 0 = s.getD a 0 := by rw [getD_drop]; rfl
theorem drop1 (s : Tx) (a : Nat) : (s.drop a).drop 1 = s.drop (a + 1) := List.drop_drop
theorem let_ne {c : UInt8} {n : Nat} (h : letB c = true) (hn : n < 65) : c.toNat ≠ n := by
  unfold letB at h; simp only [decide_eq_true_eq] at h; omega
section
variable {s : Tx} {a : Nat}
theorem tok_word (h : letB (s.getD a 0) = true) : tokF (s.drop a) = .ok (1, runF (s.drop a), (runF (s.drop a)).length) := by
  unfold tokF; dsimp only; rw [drop_get0, if_pos h]
theorem tok_id (h : (s.getD a 0).toNat = 37) : tokF (s.drop a) = if (plainF (runF (s.drop (a + 1)))).isSome = true then .ok (2, runF (s.drop (a + 1)), (runF (s.drop (a + 1))).length + 1) else .error 62 := by
  unfold tokF; dsimp only; rw [drop_get0, drop1, if_neg (fun q => let_ne q (n := 37) (by omega) h), if_pos h]
theorem tok_num (h : digB (s.getD a 0) = true ∨ (s.getD a 0).toNat = 45) : tokF (s.drop a) = if (numLx ((s.drop a).take (1 + (runF (s.drop (a + 1))).length))).2 = 0 then .ok (3, (s.drop a).take (1 + (runF (s.drop (a + 1))).length), ((s.drop a).take (1 + (runF (s.drop (a + 1))).length)).length) else .error 62 := by
  have hl : ¬ letB (s.getD a 0) = true := fun q => by
    rcases h with h | h
    · rw [dig_let h] at q; cases q
    · exact let_ne q (n := 45) (by omega) h
  have h37 : ¬ (s.getD a 0).toNat = 37 := by
    rcases h with h | h
    · have := dig_bd h; omega
    · omega
  unfold tokF; dsimp only; rw [drop_get0, drop1, if_neg hl, if_neg h37, if_pos h]
theorem quoA_eq (s : Tx) (a : Nat) : quoN ((s.drop a).drop 1).length ((s.drop a).drop 1) = quoA s (a + 1) := by
  unfold quoA; rw [drop1, List.length_drop]
theorem tok_str (h : (s.getD a 0).toNat = 34) : tokF (s.drop a) = match quoA s (a + 1) with
    | none => .error 61
    | some (t, n) => .ok (4, t, n + 1) := by
  have hd : ¬ (digB (s.getD a 0) = true ∨ (s.getD a 0).toNat = 45) := fun q => by
    rcases q with q | q
    · have := dig_bd q; omega
    · omega
  unfold tokF; dsimp only; rw [drop_get0, if_neg (fun q => let_ne q (n := 34) (by omega) h), if_neg (by omega), if_neg hd, if_pos h, quoA_eq]; rfl
theorem tok_eq (h : (s.getD a 0).toNat = 61) : tokF (s.drop a) = .ok (5, [61], 1) := by
  have hd : ¬ (digB (s.getD a 0) = true ∨ (s.getD a 0).toNat = 45) := fun q => by
    rcases q with q | q
    · have := dig_bd q; omega
    · omega
  unfold tokF; dsimp only; rw [drop_get0, if_neg (fun q => let_ne q (n := 61) (by omega) h), if_neg (by omega), if_neg hd, if_neg (by omega), if_pos h]
theorem tok_bad (h1 : ¬ letB (s.getD a 0) = true) (h2 : ¬ (s.getD a 0).toNat = 37) (h3 : ¬ digB (s.getD a 0) = true) (h4 : ¬ (s.getD a 0).toNat = 45) (h5 : ¬ (s.getD a 0).toNat = 34) (h6 : ¬ (s.getD a 0).toNat = 61) : tokF (s.drop a) = .error 60 := by
  unfold tokF; dsimp only; rw [drop_get0, if_neg h1, if_neg h2, if_neg (fun q => q.elim h3 h4), if_neg h5, if_neg h6]
theorem tok_idOk (h : (s.getD a 0).toNat = 37) (hp : (plainF (runF (s.drop (a + 1)))).isSome = true) : tokF (s.drop a) = .ok (2, runF (s.drop (a + 1)), (runF (s.drop (a + 1))).length + 1) := by rw [tok_id h, if_pos hp]
theorem tok_idNo (h : (s.getD a 0).toNat = 37) (hp : ¬ (plainF (runF (s.drop (a + 1)))).isSome = true) : tokF (s.drop a) = .error 62 := by rw [tok_id h, if_neg hp]
theorem tok_numOk {t : Tx} (h : digB (s.getD a 0) = true ∨ (s.getD a 0).toNat = 45) (ht : (s.drop a).take (1 + (runF (s.drop (a + 1))).length) = t) (hp : (numLx t).2 = 0) : tokF (s.drop a) = .ok (3, t, t.length) := by rw [tok_num h, ht, if_pos hp]
theorem tok_numNo {t : Tx} (h : digB (s.getD a 0) = true ∨ (s.getD a 0).toNat = 45) (ht : (s.drop a).take (1 + (runF (s.drop (a + 1))).length) = t) (hp : ¬ (numLx t).2 = 0) : tokF (s.drop a) = .error 62 := by rw [tok_num h, ht, if_neg hp]
theorem tok_strNo (h : (s.getD a 0).toNat = 34) (hq : (quoP (quoA s (a + 1))).2 = 0) : tokF (s.drop a) = .error 61 := by rw [tok_str h, quoP_none.1 hq]
theorem tok_strOk (h : (s.getD a 0).toNat = 34) (hq : ¬ (quoP (quoA s (a + 1))).2 = 0) : tokF (s.drop a) = .ok (4, (quoP (quoA s (a + 1))).1, (quoP (quoA s (a + 1))).2) := by
  rw [tok_str h]
  cases e : quoA s (a + 1) with
  | none => rw [e] at hq; exact absurd rfl hq
  | some q => rfl
end
theorem numF_err (s : Tx) : (numLx s).2 = 0 ∨ (numLx s).2 = 62 := by
  unfold numLx
  split
  · exact .inl rfl
  · split
    · split
      · split
        · exact .inl rfl
        · exact .inr rfl
      · exact .inr rfl
    · split
      · exact .inr rfl
      · split
        · exact .inl rfl
        · exact .inr rfl
theorem tokF_len {s t : Tx} {kd : Int} {m : Nat} (h0 : 0 < s.length) (h : tokF s = .ok (kd, t, m)) : 1 ≤ m ∧ m ≤ s.length ∧ t.length ≤ m ∧ 1 ≤ kd ∧ kd ≤ 5 := by
  have hs : s.drop 0 = s := rfl
  have h1 : s.drop (0 + 1) = s.drop 1 := rfl
  have hr := runF_le (s.drop 1)
  rw [List.length_drop] at hr
  by_cases hl : letB (s.getD 0 0) = true
  · have e := tok_word (a := 0) hl
    rw [hs, h] at e; cases e
    have := run_step (s := s) (i := 0) h0 (run_l hl)
    rw [hs] at this
    exact ⟨by omega, runF_le s, Nat.le_refl _, by omega, by omega⟩
  by_cases h37 : (s.getD 0 0).toNat = 37
  · have e := tok_id (a := 0) h37
    rw [hs, h, h1] at e; split at e
    · cases e; exact ⟨by omega, by omega, by omega, by omega, by omega⟩
    · cases e
  by_cases hd : digB (s.getD 0 0) = true ∨ (s.getD 0 0).toNat = 45
  · have e := tok_num (a := 0) hd
    rw [hs, h, h1] at e; split at e
    · cases e
      rw [List.length_take]
      exact ⟨by omega, by omega, by omega, by omega, by omega⟩
    · cases e
  by_cases h34 : (s.getD 0 0).toNat = 34
  · have e := tok_str (a := 0) h34
    rw [hs, h] at e
    cases hq : quoA s (0 + 1) with
    | none => rw [hq] at e; cases e
    | some q =>
      rw [hq] at e; cases e
      have hq2 := quo_len _ _ q.1 q.2 hq
      rw [List.length_drop] at hq2
      exact ⟨by omega, by omega, by omega, by omega, by omega⟩
  by_cases h61 : (s.getD 0 0).toNat = 61
  · have e := tok_eq (a := 0) h61
    rw [hs, h] at e; cases e
    exact ⟨by omega, by omega, by simp, by omega, by omega⟩
  · have e := tok_bad (a := 0) hl h37 (fun q => hd (.inl q)) (fun q => hd (.inr q)) h34 h61
    rw [hs, h] at e; cases e
theorem tokF_err {s : Tx} {e : Int} (h : tokF s = .error e) : e = 60 ∨ e = 61 ∨ e = 62 := by
  unfold tokF at h; dsimp only at h
  split at h
  · cases h
  split at h
  · split at h
    · cases h
    · cases h; omega
  split at h
  · split at h
    · cases h
    · cases h; omega
  split at h
  · split at h
    · cases h; omega
    · cases h
  split at h
  · cases h
  · cases h; omega
theorem toksN_fuel : ∀ (n m : Nat) (s : Tx) (k : Nat), s.length ≤ n → s.length ≤ m → toksN n s k = toksN m s k
  | 0, 0, s, _, _, _ => rfl
  | 0, m + 1, s, k, h, _ => by
    obtain rfl := List.length_eq_zero_iff.1 (Nat.le_zero.1 h); rfl
  | n + 1, 0, s, k, _, h => by
    obtain rfl := List.length_eq_zero_iff.1 (Nat.le_zero.1 h); rfl
  | n + 1, m + 1, s, k, h1, h2 => by
    rw [toksN, toksN]
    split
    · rfl
    · rename_i h0
      have h0' : 0 < s.length := by rcases Nat.eq_zero_or_pos s.length with h | h; exact absurd (.inl h) h0; exact h
      split
      · exact toksN_fuel n m _ _ (by rw [List.length_drop]; omega) (by rw [List.length_drop]; omega)
      · cases hp : tokF s with
        | error e => rfl
        | ok q =>
          have := tokF_len (kd := q.1) (t := q.2.1) (m := q.2.2) h0' hp
          dsimp only
          rw [toksN_fuel n m (s.drop q.2.2) _ (by rw [List.length_drop]; omega) (by rw [List.length_drop]; omega)]
def toksG (s : Tx) (i : Nat) : List TokL × (Int × Int) := toksN (s.length - i) (s.drop i) i
theorem toks_end {s : Tx} {i : Nat} (h : s.length ≤ i ∨ (s.getD i 0).toNat = 59) : toksG s i = ([], (0, 0)) := by
  unfold toksG
  rcases Nat.lt_or_ge i s.length with hi | hi
  · rw [show s.length - i = (s.length - i - 1) + 1 by omega, toksN, if_pos (.inr (by rw [drop_get0]; rcases h with h | h; omega; exact h))]
  · rw [List.drop_eq_nil_of_le hi, show s.length - i = 0 by omega]; rfl
theorem toks_unf {s : Tx} {i : Nat} (hi : i < s.length) (h1 : ¬ (s.getD i 0).toNat = 59) : toksG s i = if blankB (s.getD i 0) = true then toksN (s.length - i - 1) (s.drop (i + 1)) (i + 1) else match tokF (s.drop i) with
    | .error e => ([], (e, (i : Int)))
    | .ok (kd, t, m) =>
        let r := toksN (s.length - i - 1) ((s.drop i).drop m) (i + m)
        if r.2.1 = 0 then (⟨kd, t, (i : Int)⟩ :: r.1, (0, 0)) else ([], r.2) := by
  unfold toksG
  rw [show s.length - i = (s.length - i - 1) + 1 by omega, toksN, if_neg (by rw [drop_get0, List.length_drop]; omega), drop_get0, drop1]; rfl
theorem toks_blank {s : Tx} {i : Nat} (hi : i < s.length) (h1 : ¬ (s.getD i 0).toNat = 59) (h2 : blankB (s.getD i 0) = true) : toksG s i = toksG s (i + 1) := by
  rw [toks_unf hi h1, if_pos h2]; unfold toksG; rw [show s.length - i - 1 = s.length - (i + 1) by omega]
theorem toks_err {s : Tx} {i : Nat} {e : Int} (hi : i < s.length) (h1 : ¬ (s.getD i 0).toNat = 59) (h2 : ¬ blankB (s.getD i 0) = true) (h : tokF (s.drop i) = .error e) : toksG s i = ([], (e, (i : Int))) := by
  rw [toks_unf hi h1, if_neg h2, h]
theorem toks_ok {s t : Tx} {i m : Nat} {kd : Int} (hi : i < s.length) (h1 : ¬ (s.getD i 0).toNat = 59) (h2 : ¬ blankB (s.getD i 0) = true) (h : tokF (s.drop i) = .ok (kd, t, m)) : toksG s i = if (toksG s (i + m)).2.1 = 0 then (⟨kd, t, (i : Int)⟩ :: (toksG s (i + m)).1, (0, 0)) else ([], (toksG s (i + m)).2) := by
  rw [toks_unf hi h1, if_neg h2, h]
  have hm := tokF_len (by rw [List.length_drop]; omega) h
  rw [List.length_drop] at hm
  dsimp only
  unfold toksG
  rw [List.drop_drop, toksN_fuel (s.length - i - 1) (s.length - (i + m)) _ _ (by rw [List.length_drop]; omega) (by rw [List.length_drop]; omega)]
theorem toksF_eq (s : Tx) : toksF s = toksG s 0 := rfl
def joinT (l : List TokL) (r : List TokL × (Int × Int)) : List TokL × (Int × Int) := if r.2.1 = 0 then (l ++ r.1, (0, 0)) else ([], r.2)
def toksI (s : Tx) (i : Nat) (l : List TokL) : Prop := i ≤ s.length ∧ l.length ≤ i ∧ toksF s = joinT l (toksG s i)
theorem toksN_zero : ∀ (n : Nat) (s : Tx) (k : Nat), (toksN n s k).2.1 = 0 → (toksN n s k).2 = (0, 0)
  | 0, s, k, _ => rfl
  | n + 1, s, k, h => by
    rw [toksN] at h ⊢
    split
    · rfl
    · rename_i h0
      rw [if_neg h0] at h
      split
      · rename_i hb; rw [if_pos hb] at h; exact toksN_zero n _ _ h
      · rename_i hb
        rw [if_neg hb] at h
        cases hp : tokF s with
        | error e =>
          rw [hp] at h; dsimp only at h
          have := tokF_err hp; omega
        | ok q =>
          rw [hp] at h
          dsimp only at h ⊢
          split
          · rfl
          · rename_i h3
            rw [if_neg h3] at h
            exact absurd h h3
theorem toksI_start (s : Tx) : toksI s 0 [] := by
  refine ⟨Nat.zero_le _, Nat.le_refl _, ?_⟩
  unfold joinT; rw [← toksF_eq]
  split
  · rename_i h; have := toksN_zero _ _ _ h; exact Prod.ext rfl this
  · rename_i h
    have : (toksF s).1 = [] := by
      have hz : ∀ (n : Nat) (s : Tx) (k : Nat), ¬ (toksN n s k).2.1 = 0 → (toksN n s k).1 = [] := fun n => by
        induction n with
        | zero => intro s k h; exact absurd rfl h
        | succ n ih =>
          intro s k h
          rw [toksN] at h ⊢
          split
          · rfl
          · rename_i h0; rw [if_neg h0] at h
            split
            · rename_i hb; rw [if_pos hb] at h; exact ih _ _ h
            · rename_i hb; rw [if_neg hb] at h
              cases hp : tokF s with
              | error e => rfl
              | ok q =>
                rw [hp] at h; dsimp only at h ⊢
                split
                · rename_i h3; rw [if_pos h3] at h; exact absurd rfl h
                · rfl
      exact hz _ _ _ h
    exact Prod.ext this rfl
theorem toksI_blank {s : Tx} {i : Nat} {l : List TokL} (h : toksI s i l) (hi : i < s.length) (h1 : ¬ (s.getD i 0).toNat = 59) (h2 : blankB (s.getD i 0) = true) : toksI s (i + 1) l :=
  ⟨hi, by have := h.2.1; omega, by rw [h.2.2, toks_blank hi h1 h2]⟩
theorem toksI_end {s : Tx} {i : Nat} {l : List TokL} (h : toksI s i l) (h1 : s.length ≤ i ∨ (s.getD i 0).toNat = 59) : toksF s = (l, (0, 0)) := by
  rw [h.2.2, toks_end h1]; unfold joinT; rw [if_pos rfl, List.append_nil]
theorem toksI_err {s : Tx} {i : Nat} {l : List TokL} {e : Int} (h : toksI s i l) (hi : i < s.length) (h1 : ¬ (s.getD i 0).toNat = 59) (h2 : ¬ blankB (s.getD i 0) = true) (h3 : tokF (s.drop i) = .error e) : toksF s = ([], (e, (i : Int))) := by
  have he := tokF_err h3
  rw [h.2.2, toks_err hi h1 h2 h3]; unfold joinT; rw [if_neg (by dsimp only; omega)]
theorem toksI_ok {s t : Tx} {i m : Nat} {kd : Int} {l : List TokL} (h : toksI s i l) (hi : i < s.length) (h1 : ¬ (s.getD i 0).toNat = 59) (h2 : ¬ blankB (s.getD i 0) = true) (h3 : tokF (s.drop i) = .ok (kd, t, m)) : toksI s (i + m) (l ++ [⟨kd, t, (i : Int)⟩]) := by
  have hm := tokF_len (by rw [List.length_drop]; omega) h3
  rw [List.length_drop] at hm
  refine ⟨by omega, by rw [List.length_append, List.length_singleton]; have := h.2.1; omega, ?_⟩
  rw [h.2.2, toks_ok hi h1 h2 h3]
  unfold joinT
  by_cases hz : (toksG s (i + m)).2.1 = 0
  · rw [if_pos hz, if_pos rfl, if_pos hz, List.append_assoc]; rfl
  · rw [if_neg hz, if_neg hz, if_neg hz]
def tokC (t : TokL) : List Value := [.int .u8 t.kind, str t.text, .int .i64 t.at_]
theorem tokC_len (t : TokL) : (tokC t).length = 3 := rfl
def tok0 : TokL := ⟨0, [], 0⟩
end Go.SK
namespace Go.SK
section
variable {t : TokL}
theorem wr1_ok (h : t.kind = 1) (h0 : t.text ≠ []) (h1 : letB (t.text.getD 0 0) = true) (h2 : runF t.text = t.text) : wrT t = some t.text := by
  have hl : 0 < t.text.length := List.length_pos_iff.2 h0
  unfold wrT; rw [if_pos h, if_pos ⟨hl, h1, h2⟩]
theorem wr2_ok (h : t.kind = 2) (h1 : (plainF t.text).isSome = true) : wrT t = some (37 :: t.text) := by
  unfold wrT; rw [if_neg (by omega), if_pos h, if_pos h1]
theorem wr3_ok (h : t.kind = 3) (h1 : (numLx t.text).2 = 0) : wrT t = some t.text := by
  unfold wrT; rw [if_neg (by omega), if_neg (by omega), if_pos h, if_pos h1]
theorem wr4_ok (h : t.kind = 4) : wrT t = some (quoteF t.text) := by
  unfold wrT; rw [if_neg (by omega), if_neg (by omega), if_neg (by omega), if_pos h]
theorem wr5_ok (h : t.kind = 5) (h1 : t.text = [61]) : wrT t = some [61] := by
  unfold wrT; rw [if_neg (by omega), if_neg (by omega), if_neg (by omega), if_neg (by omega), if_pos h, if_pos h1]
end
def wrL : List TokL → Option (List Tx)
  | [] => some []
  | t :: r => (wrT t).bind fun a => (wrL r).map fun b => a :: b
def wsz : List TokL → Nat
  | [] => 0
  | t :: r => 4 * t.text.length + 3 + wsz r
def osz : List Tx → Nat
  | [] => 0
  | x :: r => x.length + 1 + osz r
theorem drop_tok {l : List TokL} {i : Nat} (h : i < l.length) : l.drop i = l.getD i tok0 :: l.drop (i + 1) := by
  rw [List.drop_eq_getElem_cons h]; simp [List.getD, h]
theorem wsz_get {l : List TokL} {i : Nat} (h : i < l.length) : 4 * (l.getD i tok0).text.length + 3 + wsz (l.drop (i + 1)) = wsz (l.drop i) := by
  rw [drop_tok h, wsz]
end Go.SK
namespace Go.SK
theorem lt_succ_all {P : Nat → Prop} {i : Nat} (h : ∀ j, j < i → P j) (hi : P i) : ∀ j, j < i + 1 → P j := fun j hj => by
  rcases Nat.lt_or_ge j i with h1 | h1
  · exact h j h1
  · obtain rfl : j = i := by omega
    exact hi
end Go.SK
namespace Go.SK
theorem runF_self {s : Tx} (h : s.all runB = true) : runF s = s := by
  unfold runF
  induction s with
  | nil => rfl
  | cons c r ih =>
    rw [List.all_cons, Bool.and_eq_true] at h
    rw [List.takeWhile_cons, if_pos h.1, ih h.2]
def retok : List TokL → List Tx → Nat → List TokL
  | t :: r, x :: xs, k => ⟨t.kind, t.text, (k : Int)⟩ :: retok r xs (k + x.length + 1)
  | _, _, _ => []
theorem retok_get : ∀ (l : List TokL) (o : List Tx) (k i : Nat), wrL l = some o → i < l.length → (retok l o k).getD i tok0 = ⟨(l.getD i tok0).kind, (l.getD i tok0).text, ((k + osz (o.take i) : Nat) : Int)⟩ ∧ wrT (l.getD i tok0) = some (o.getD i [])
  | [], o, k, i, _, hi => by simp at hi
  | t :: r, o, k, i, h, hi => by
    rw [wrL] at h
    cases ht : wrT t with
    | none => rw [ht] at h; cases h
    | some x =>
      rw [ht, Option.bind_some] at h
      cases hr : wrL r with
      | none => rw [hr] at h; cases h
      | some xs =>
        rw [hr] at h; cases h
        cases i with
        | zero => exact ⟨rfl, ht⟩
        | succ i =>
          have := retok_get r xs (k + x.length + 1) i hr (by simpa using hi)
          refine ⟨?_, this.2⟩
          show (retok r xs (k + x.length + 1)).getD i tok0 = _
          rw [this.1]
          show (⟨_, _, _⟩ : TokL) = ⟨_, _, _⟩
          congr 1
          rw [List.take_succ_cons, osz]; omega
theorem tok_wr {s t : Tx} {kd at_ : Int} {m : Nat} (h0 : 0 < s.length) (h : tokF s = .ok (kd, t, m)) : ∃ x, wrT ⟨kd, t, at_⟩ = some x := by
  have hs : s.drop 0 = s := rfl
  have h1 : s.drop (0 + 1) = s.drop 1 := rfl
  by_cases hl : letB (s.getD 0 0) = true
  · have e := tok_word (a := 0) hl
    rw [hs, h] at e; cases e
    have hst := run_step (s := s) (i := 0) h0 (run_l hl)
    rw [hs] at hst
    have hg : (runF s).getD 0 0 = s.getD 0 0 := by
      rw [← runF_take s rfl]
      cases s with
      | nil => simp at h0
      | cons c r => rw [show (runF (c :: r)).length = ((runF (c :: r)).length - 1) + 1 by omega, List.take_succ_cons]; rfl
    exact ⟨_, wr1_ok rfl (List.length_pos_iff.1 (by show 0 < (runF s).length; omega)) (by rw [hg]; exact hl) (runF_self (runF_all s))⟩
  by_cases h37 : (s.getD 0 0).toNat = 37
  · have e := tok_id (a := 0) h37
    rw [hs, h, h1] at e; split at e
    · rename_i hp; cases e; exact ⟨_, wr2_ok rfl hp⟩
    · cases e
  by_cases hd : digB (s.getD 0 0) = true ∨ (s.getD 0 0).toNat = 45
  · have e := tok_num (a := 0) hd
    rw [hs, h, h1] at e; split at e
    · rename_i hp; cases e; exact ⟨_, wr3_ok rfl hp⟩
    · cases e
  by_cases h34 : (s.getD 0 0).toNat = 34
  · have e := tok_str (a := 0) h34
    rw [hs, h] at e
    cases hq : quoA s (0 + 1) with
    | none => rw [hq] at e; cases e
    | some q => rw [hq] at e; cases e; exact ⟨_, wr4_ok rfl⟩
  by_cases h61 : (s.getD 0 0).toNat = 61
  · have e := tok_eq (a := 0) h61
    rw [hs, h] at e; cases e; exact ⟨_, wr5_ok rfl rfl⟩
  · have e := tok_bad (a := 0) hl h37 (fun q => hd (.inl q)) (fun q => hd (.inr q)) h34 h61
    rw [hs, h] at e; cases e
theorem toks_wr : ∀ (n : Nat) (s : Tx) (k : Nat), ∃ o, wrL (toksN n s k).1 = some o
  | 0, s, k => ⟨[], rfl⟩
  | n + 1, s, k => by
    rw [toksN]
    split
    · exact ⟨[], rfl⟩
    · rename_i h0
      have h0' : 0 < s.length := by rcases Nat.eq_zero_or_pos s.length with h | h; exact absurd (.inl h) h0; exact h
      split
      · exact toks_wr n _ _
      · cases hp : tokF s with
        | error e => exact ⟨[], rfl⟩
        | ok q =>
          dsimp only
          split
          · obtain ⟨x, hx⟩ := tok_wr (at_ := (k : Int)) (kd := q.1) (t := q.2.1) (m := q.2.2) h0' hp
            obtain ⟨o, ho⟩ := toks_wr n (s.drop q.2.2) (k + q.2.2)
            exact ⟨x :: o, by rw [wrL, hx, Option.bind_some, ho]; rfl⟩
          · exact ⟨[], rfl⟩
theorem toks_sz : ∀ (n : Nat) (s : Tx) (k : Nat), s.length ≤ n → wsz (toksN n s k).1 ≤ 7 * s.length ∧ (toksN n s k).1.length ≤ s.length
  | 0, s, k, _ => ⟨Nat.zero_le _, Nat.zero_le _⟩
  | n + 1, s, k, hn => by
    rw [toksN]
    split
    · exact ⟨Nat.zero_le _, Nat.zero_le _⟩
    · rename_i h0
      have h0' : 0 < s.length := by rcases Nat.eq_zero_or_pos s.length with h | h; exact absurd (.inl h) h0; exact h
      split
      · have := toks_sz n (s.drop 1) (k + 1) (by rw [List.length_drop]; omega)
        rw [List.length_drop] at this; omega
      · cases hp : tokF s with
        | error e => exact ⟨Nat.zero_le _, Nat.zero_le _⟩
        | ok q =>
          obtain ⟨kd, t, m⟩ := q
          dsimp only
          have hm := tokF_len (kd := kd) (t := t) (m := m) h0' hp
          have := toks_sz n (s.drop m) (k + m) (by rw [List.length_drop]; omega)
          rw [List.length_drop] at this
          split
          · rw [wsz, List.length_cons]; dsimp only; omega
          · exact ⟨Nat.zero_le _, Nat.zero_le _⟩
end Go.SK
namespace Go.SK
theorem toksF_len (s : Tx) : (toksF s).1.length ≤ s.length := (toks_sz _ s 0 (Nat.le_refl _)).2
theorem toksF_wsz (s : Tx) : wsz (toksF s).1 ≤ 7 * s.length := (toks_sz _ s 0 (Nat.le_refl _)).1
theorem toksF_zero {s : Tx} (h : (toksF s).2.1 = 0) : toksF s = ((toksF s).1, (0, 0)) := Prod.ext rfl (toksN_zero _ _ _ h)
end Go.SK
namespace Go.SK
theorem wsz_mem {l : List TokL} {i : Nat} (h : i < l.length) : 4 * (l.getD i tok0).text.length + 3 ≤ wsz l := by
  induction l generalizing i with
  | nil => simp at h
  | cons t r ih =>
    cases i with
    | zero => show 4 * t.text.length + 3 ≤ _; rw [wsz]; omega
    | succ i =>
      have := ih (i := i) (by simpa using h)
      show 4 * (r.getD i tok0).text.length + 3 ≤ _
      rw [wsz]; omega
end Go.SK
namespace Go.SK
def cutA (r : Tx) : Tx := r.takeWhile fun c => decide (c.toNat ≠ 10)
def cutB (r : Tx) : Tx := r.drop ((cutA r).length + 1)
def lnN : Nat → Tx → List Tx
  | 0, _ => []
  | n + 1, r => if r.length = 0 then [] else cutA r :: lnN n (cutB r)
def lnF (r : Tx) : List Tx := lnN r.length r
end Go.SK
namespace Go.SK
def modW : Tx := [109, 111, 100, 117, 108, 101]
def headL (n : Int) (l : List TokL) : (Int × Int) × (Int × Int) :=
  if l.length = 0 then ((0, 0), (72, n))
  else if (l.getD 0 tok0).kind ≠ 1 ∨ (l.getD 0 tok0).text ≠ modW then ((0, 0), (70, (l.getD 0 tok0).at_))
  else if l.length = 1 then ((0, 0), (72, n))
  else if (l.getD 1 tok0).kind ≠ 3 then ((0, 0), (70, (l.getD 1 tok0).at_))
  else if (numLx (l.getD 1 tok0).text).2 ≠ 0 then ((0, 0), ((numLx (l.getD 1 tok0).text).2, (l.getD 1 tok0).at_))
  else if l.length = 2 then ((0, 0), (72, n))
  else if (l.getD 2 tok0).kind ≠ 3 then ((0, 0), (70, (l.getD 2 tok0).at_))
  else if (numLx (l.getD 2 tok0).text).2 ≠ 0 then ((0, 0), ((numLx (l.getD 2 tok0).text).2, (l.getD 2 tok0).at_))
  else if (numLx (l.getD 2 tok0).text).1 < 1 ∨ 65536 < (numLx (l.getD 2 tok0).text).1 then ((0, 0), (24, (l.getD 2 tok0).at_))
  else if 3 < l.length then ((0, 0), (70, (l.getD 3 tok0).at_))
  else (((numLx (l.getD 1 tok0).text).1, (numLx (l.getD 2 tok0).text).1), (0, 0))
def headF (s : Tx) : (Int × Int) × (Int × Int) := if (toksF s).2.1 ≠ 0 then ((0, 0), (toksF s).2) else headL s.length (toksF s).1
section
variable {n : Int} {l : List TokL}
theorem head3 (hk : (l.getD 0 tok0).kind = 1) (ht : (l.getD 0 tok0).text = modW) (h0 : 1 < l.length) : headL n l =
    if (l.getD 1 tok0).kind ≠ 3 then ((0, 0), (70, (l.getD 1 tok0).at_))
    else if (numLx (l.getD 1 tok0).text).2 ≠ 0 then ((0, 0), ((numLx (l.getD 1 tok0).text).2, (l.getD 1 tok0).at_))
    else if l.length = 2 then ((0, 0), (72, n))
    else if (l.getD 2 tok0).kind ≠ 3 then ((0, 0), (70, (l.getD 2 tok0).at_))
    else if (numLx (l.getD 2 tok0).text).2 ≠ 0 then ((0, 0), ((numLx (l.getD 2 tok0).text).2, (l.getD 2 tok0).at_))
    else if (numLx (l.getD 2 tok0).text).1 < 1 ∨ 65536 < (numLx (l.getD 2 tok0).text).1 then ((0, 0), (24, (l.getD 2 tok0).at_))
    else if 3 < l.length then ((0, 0), (70, (l.getD 3 tok0).at_))
    else (((numLx (l.getD 1 tok0).text).1, (numLx (l.getD 2 tok0).text).1), (0, 0)) := by
  conv => lhs; unfold headL
  rw [if_neg (by omega), if_neg (by rintro (q | q) <;> contradiction), if_neg (by omega)]
end
def idL (t : Tx) (bound : Int) : Int := if 1 ≤ (plR t : Int) ∧ (plR t : Int) < bound then (plR t : Int) else 0
def kindT (c : Int) : Int := if c = 105 then 2 else if c = 110 then 3 else if c = 115 then 4 else 1
def argT (c : Int) (t : TokL) (bound : Int) : ArgP × Int :=
  if c = 0 ∨ t.kind ≠ kindT c then (zeroA, 70)
  else if c = 105 then (if idL t.text bound = 0 then (zeroA, 43) else (⟨1, idL t.text bound, []⟩, 0))
  else if c = 110 then (if (numLx t.text).2 ≠ 0 then (zeroA, (numLx t.text).2) else (⟨2, (numLx t.text).1, []⟩, 0))
  else if c = 115 then (if zeroAt t.text ≠ t.text.length then (zeroA, 13) else (⟨3, 0, t.text⟩, 0))
  else if (namesL.find? (enS c t.text)).isSome = false then (zeroA, 71)
  else (⟨4, ((namesL.find? (enS c t.text)).getD zeroN).n, []⟩, 0)
def argsT (fm : FormL) (bound : Int) : Nat → List TokL → List ArgP × (Int × Int)
  | _, [] => ([], (0, 0))
  | k, t :: r =>
    if (argT (letterS fm k) t bound).2 ≠ 0 then ([], ((argT (letterS fm k) t bound).2, t.at_))
    else ((argT (letterS fm k) t bound).1 :: (argsT fm bound (k + 1) r).1, (argsT fm bound (k + 1) r).2)
def opAt (l : List TokL) : Nat := if (l.getD 0 tok0).kind = 2 then 2 else 0
def lineO (n : Int) (l : List TokL) (bound : Int) (fm : FormL) : InstL × Bool × (Int × Int) :=
  if fm.res ≠ decide ((l.getD 0 tok0).kind = 2) then (zeroIL, false, (41, (l.getD 0 tok0).at_))
  else if (l.getD 0 tok0).kind = 2 ∧ idL (l.getD 0 tok0).text bound = 0 then (zeroIL, false, (43, (l.getD 0 tok0).at_))
  else if fm.ty = true ∧ l.length = opAt l + 1 then (zeroIL, false, (72, n))
  else if fm.ty = true ∧ (l.getD (opAt l + 1) tok0).kind ≠ 2 then (zeroIL, false, (70, (l.getD (opAt l + 1) tok0).at_))
  else if fm.ty = true ∧ idL (l.getD (opAt l + 1) tok0).text bound = 0 then (zeroIL, false, (43, (l.getD (opAt l + 1) tok0).at_))
  else if (argsT fm bound 0 (l.drop (opAt l + 1 + b2n fm.ty))).2.1 ≠ 0 then (zeroIL, false, (argsT fm bound 0 (l.drop (opAt l + 1 + b2n fm.ty))).2)
  else if (fitsS fm.op ((argsT fm bound 0 (l.drop (opAt l + 1 + b2n fm.ty))).1.map ArgP.kind)).2 = false then (zeroIL, false, (72, n))
  else if roomI fm (argsT fm bound 0 (l.drop (opAt l + 1 + b2n fm.ty))).1 > 65535 then (zeroIL, false, (25, 0))
  else (⟨fm.op, if fm.ty = true then idL (l.getD (opAt l + 1) tok0).text bound else 0, if (l.getD 0 tok0).kind = 2 then idL (l.getD 0 tok0).text bound else 0, (argsT fm bound 0 (l.drop (opAt l + 1 + b2n fm.ty))).1⟩, true, (0, 0))
def lineL (n : Int) (l : List TokL) (bound : Int) : InstL × Bool × (Int × Int) :=
  if l.length = 0 then (zeroIL, false, (0, 0))
  else if (l.getD 0 tok0).kind = 2 ∧ l.length = 1 then (zeroIL, false, (72, n))
  else if (l.getD 0 tok0).kind = 2 ∧ (l.getD 1 tok0).kind ≠ 5 then (zeroIL, false, (70, (l.getD 1 tok0).at_))
  else if (l.getD 0 tok0).kind = 2 ∧ l.length = 2 then (zeroIL, false, (72, n))
  else if (l.getD (opAt l) tok0).kind ≠ 1 then (zeroIL, false, (70, (l.getD (opAt l) tok0).at_))
  else if (refT.find? (nmF (l.getD (opAt l) tok0).text)).isSome = false then (zeroIL, false, (71, (l.getD (opAt l) tok0).at_))
  else lineO n l bound ((refT.find? (nmF (l.getD (opAt l) tok0).text)).getD zeroF)
def lineF (s : Tx) (bound : Int) : InstL × Bool × (Int × Int) := if (toksF s).2.1 ≠ 0 then (zeroIL, false, (toksF s).2) else lineL s.length (toksF s).1 bound
end Go.SK
namespace Go.SK
theorem zeroAt_nil : zeroAt ([] : Tx) = 0 := rfl
theorem argT_ok {c : Int} {t : TokL} {bound : Int} (hc : 0 ≤ c ∧ c ≤ 255) (h : (argT c t bound).2 = 0) : c ≠ 0 ∧ (argT c t bound).1.kind = kindS c ∧ wrongA c (argT c t bound).1 bound = 0 ∧ (argT c t bound).1.s.length ≤ t.text.length := by
  unfold argT at h ⊢
  by_cases h1 : c = 0 ∨ t.kind ≠ kindT c
  · rw [if_pos h1] at h; cases h
  rw [if_neg h1] at h ⊢
  have hc0 : c ≠ 0 := fun e => h1 (.inl e)
  by_cases h2 : c = 105
  · rw [if_pos h2] at h ⊢
    subst h2
    by_cases hi : idL t.text bound = 0
    · rw [if_pos hi] at h; cases h
    · rw [if_neg hi]
      have hb : 1 ≤ idL t.text bound ∧ idL t.text bound < bound := by
        unfold idL at hi ⊢
        split
        · assumption
        · rename_i q; rw [if_neg q] at hi; exact absurd rfl hi
      refine ⟨by decide, rfl, ?_, Nat.zero_le _⟩
      unfold wrongA
      rw [if_neg (by simp [kindS]), if_neg (by simp), if_neg (by simp [idE]; omega), if_neg (by simp), if_neg (by simp [zeroAt_nil])]
  rw [if_neg h2] at h ⊢
  by_cases h3 : c = 110
  · rw [if_pos h3] at h ⊢
    subst h3
    by_cases hi : (numLx t.text).2 ≠ 0
    · rw [if_pos hi] at h; exact absurd h hi
    · rw [if_neg hi]
      refine ⟨by decide, rfl, ?_, Nat.zero_le _⟩
      unfold wrongA
      rw [if_neg (by simp [kindS]), if_neg (by simp), if_neg (by simp), if_neg (by simp), if_neg (by simp [zeroAt_nil])]
  rw [if_neg h3] at h ⊢
  by_cases h4 : c = 115
  · rw [if_pos h4] at h ⊢
    subst h4
    by_cases hi : zeroAt t.text ≠ t.text.length
    · rw [if_pos hi] at h; cases h
    · rw [if_neg hi]
      refine ⟨by decide, rfl, ?_, Nat.le_refl _⟩
      unfold wrongA
      rw [if_neg (by simp [kindS]), if_neg (by simp), if_neg (by simp), if_neg (by simp), if_neg hi]
  rw [if_neg h4] at h ⊢
  cases hf : namesL.find? (enS c t.text) with
  | none => rw [hf, if_pos (show (none : Option NameL).isSome = false from rfl)] at h; exact absurd h (by decide)
  | some x =>
    rw [if_neg (by simp)]
    have hx : x.letter = c ∧ x.name = t.text := by simpa using List.find?_some hf
    have hm := List.mem_of_find?_eq_some hf
    have hany : (namesL.find? (fun y => decide (y.letter = c))).isSome = true := by
      rw [List.find?_isSome]; exact ⟨x, hm, by simp [hx.1]⟩
    have hk : kindS c = 4 := by
      unfold kindS; rw [if_neg h2, if_neg h3, if_neg h4, if_pos ((names_any hc.1 hc.2).2 hany)]
    have hen : enumE c x.n = 0 := by
      unfold enumE; rw [if_pos]
      rw [List.find?_isSome]; exact ⟨x, hm, by simp [hx.1]⟩
    refine ⟨hc0, hk.symm, ?_, Nat.zero_le _⟩
    unfold wrongA
    rw [if_neg (by simp [hk, hc0]), if_neg (by simp), if_neg (by simp), if_neg (by simp [hen]), if_neg (by simp [zeroAt_nil])]
theorem argsT_ok {fm : FormL} {bound : Int} : ∀ {l : List TokL} {k : Nat}, (argsT fm bound k l).2.1 = 0 → wrongL fm bound k (argsT fm bound k l).1 = 0 ∧ (argsT fm bound k l).1.length = l.length ∧ (argsT fm bound k l).2 = (0, 0)
  | [], k, _ => ⟨rfl, rfl, rfl⟩
  | t :: r, k, h => by
    unfold argsT at h ⊢
    by_cases h1 : (argT (letterS fm k) t bound).2 ≠ 0
    · rw [if_pos h1] at h; exact absurd h h1
    · rw [if_neg h1] at h ⊢
      have h2 := argT_ok (letterS_bd fm k) (Classical.not_not.1 h1)
      have ih := argsT_ok (l := r) (k := k + 1) h
      refine ⟨?_, by rw [List.length_cons, List.length_cons, ih.2.1], ih.2.2⟩
      unfold wrongL
      rw [if_neg (by rw [h2.2.2.1]; simp)]; exact ih.1
theorem fits_off {op : Int} {ks : List Int} (h : (fitsS op ks).2 = true) : (refS op).isSome = true ∧ ¬ offR (refD op) ks.length := by
  unfold fitsS at h
  by_cases h1 : (refS op).isSome = true
  · rw [if_pos h1] at h
    refine ⟨h1, fun ho => ?_⟩
    unfold fitsF at h
    cases hb : badI (refD op) 0 ks with
    | some i => rw [hb] at h; cases h
    | none => rw [hb] at h; dsimp only at h; rw [if_pos ho] at h; cases h
  · rw [if_neg h1] at h; cases h
theorem idL_bd {t : Tx} {bound : Int} (h : idL t bound ≠ 0) : 1 ≤ idL t bound ∧ idL t bound < bound := by
  unfold idL at h ⊢
  split
  · assumption
  · rename_i q; rw [if_neg q] at h; exact absurd rfl h
theorem line_fault {fm : FormL} {bound : Int} {said : Bool} {ty res : Int} {l : List TokL} (hfm : refD fm.op = fm) (hr : fm.res = said) (hres : said = true → 1 ≤ res ∧ res < bound) (hres0 : said = false → res = 0) (hty : fm.ty = true → 1 ≤ ty ∧ ty < bound) (hty0 : fm.ty = false → ty = 0)
    (ha : (argsT fm bound 0 l).2.1 = 0) (hf : (fitsS fm.op ((argsT fm bound 0 l).1.map ArgP.kind)).2 = true) :
    faultF bound ⟨fm.op, ty, res, (argsT fm bound 0 l).1⟩ = if roomI fm (argsT fm bound 0 l).1 > 65535 then 25 else 0 := by
  have h1 := fits_off hf
  have h2 := argsT_ok ha
  unfold faultF
  dsimp only
  rw [hfm] at h1 ⊢
  have ht : idH fm.ty ty bound 40 = 0 := by
    unfold idH
    cases hb : fm.ty with
    | false => rw [hty0 hb]; simp
    | true => have := hty hb; rw [if_neg (by simp; omega), if_neg (by simp; omega)]
  have hs : idH fm.res res bound 41 = 0 := by
    unfold idH
    rw [hr]
    cases hb : said with
    | false => rw [hres0 hb]; simp
    | true => have := hres hb; rw [if_neg (by simp; omega), if_neg (by simp; omega)]
  rw [if_neg (by rw [h1.1]; simp), if_neg (by rw [ht]; simp), if_neg (by rw [hs]; simp), if_neg (by rw [h2.1]; simp), if_neg (by have := h1.2; rwa [List.length_map] at this)]
end Go.SK
namespace Go.SK
theorem find_refD_small : refT.all (fun f => decide (refS f.op = some f)) = true := by decide +kernel
theorem find_refD {q : Tx} {fm : FormL} (h : refT.find? (nmF q) = some fm) : refS fm.op = some fm ∧ refD fm.op = fm ∧ fm.name = q := by
  have h1 : refS fm.op = some fm := by simpa only [decide_eq_true_eq] using List.all_eq_true.1 find_refD_small fm (List.mem_of_find?_eq_some h)
  refine ⟨h1, by rw [refD, h1]; rfl, by simpa using List.find?_some h⟩
structure ArI (fm : FormL) (bound : Int) (l : List TokL) (q j : Nat) (ags : List ArgP) : Prop where
  le : q + j ≤ l.length
  len : ags.length = j
  eq : argsT fm bound 0 (l.drop q) = (ags ++ (argsT fm bound j (l.drop (q + j))).1, (argsT fm bound j (l.drop (q + j))).2)
  tx : ∀ a ∈ ags, 4 * a.s.length ≤ wsz l
  sum : 4 * (ags.map argRoom).sum + wsz (l.drop (q + j)) ≤ wsz (l.drop q) + 4 * j
section
variable {fm : FormL} {bound : Int} {l : List TokL} {q j : Nat} {ags : List ArgP}
theorem ArI.start (h : q ≤ l.length) : ArI fm bound l q 0 [] := ⟨h, rfl, rfl, fun a h => absurd h List.not_mem_nil, by simp⟩
theorem argT_room {c : Int} {t : TokL} {bound : Int} (hc : 0 ≤ c ∧ c ≤ 255) (h : (argT c t bound).2 = 0) : argRoom (argT c t bound).1 ≤ t.text.length / 4 + 1 := by
  have h1 := (argT_ok hc h).2.2.2
  unfold argRoom
  split
  · have := Nat.div_le_div_right (c := 4) h1; omega
  · omega
theorem ArI.step (h : ArI fm bound l q j ags) (hj : q + j < l.length) (he : (argT (letterS fm j) (l.getD (q + j) tok0) bound).2 = 0) : ArI fm bound l q (j + 1) (ags ++ [(argT (letterS fm j) (l.getD (q + j) tok0) bound).1]) := by
  have hd := drop_tok hj
  have hr := argT_room (letterS_bd fm j) he
  have ht := (argT_ok (letterS_bd fm j) he).2.2.2
  have hw := wsz_get (l := l) (i := q + j) hj
  have hm := wsz_mem hj
  refine ⟨by omega, by rw [List.length_append, h.len]; rfl, ?_, fun a ha => ?_, ?_⟩
  · rw [h.eq, hd, argsT, if_neg (by rw [he]; simp), List.append_assoc, ← Nat.add_assoc]; rfl
  · rcases List.mem_append.1 ha with ha | ha
    · exact h.tx a ha
    · obtain rfl := List.mem_singleton.1 ha; omega
  · have hs := h.sum
    rw [List.map_append, List.sum_append, List.map_singleton, List.sum_singleton, ← Nat.add_assoc]
    omega
theorem ArI.bad (h : ArI fm bound l q j ags) (hj : q + j < l.length) (he : (argT (letterS fm j) (l.getD (q + j) tok0) bound).2 ≠ 0) : (argsT fm bound 0 (l.drop q)).2 = ((argT (letterS fm j) (l.getD (q + j) tok0) bound).2, (l.getD (q + j) tok0).at_) := by
  rw [h.eq, drop_tok hj, argsT, if_pos he]
theorem ArI.fin (h : ArI fm bound l q j ags) (hj : l.length ≤ q + j) : argsT fm bound 0 (l.drop q) = (ags, (0, 0)) := by
  rw [h.eq, List.drop_eq_nil_of_le hj, argsT, List.append_nil]
end
end Go.SK
namespace Go.SK
structure PaL where
  gn : Int
  bd : Int
  words : Nat
  insts : List InstL
def zeroD (e a : Int) : DecL := ((0, 0, []), (e, a))
def parS (x : Tx) (s : PaL) : Except Int PaL :=
  if s.words = 0 then
    if (toksF x).2.1 = 0 ∧ (toksF x).1.length = 0 then .ok s
    else if (headF x).2.1 ≠ 0 then .error (headF x).2.1
    else .ok ⟨(headF x).1.1, (headF x).1.2, 5, []⟩
  else if (lineF x s.bd).2.2.1 ≠ 0 then .error (lineF x s.bd).2.2.1
  else if (lineF x s.bd).2.1 = false then .ok s
  else if s.words + roomI (refD (lineF x s.bd).1.op) (lineF x s.bd).1.args > 1048576 then .error 4
  else .ok ⟨s.gn, s.bd, s.words + roomI (refD (lineF x s.bd).1.op) (lineF x s.bd).1.args, s.insts ++ [(lineF x s.bd).1]⟩
def parL : Nat → List Tx → PaL → DecL
  | n, [], s => if s.words = 0 then zeroD 72 n else ((s.gn, s.bd, s.insts), (0, 0))
  | n, x :: r, s => match parS x s with
    | .error e => zeroD e (n + 1)
    | .ok t => parL (n + 1) r t
structure PaI (t : Tx) (i : Nat) (s : PaL) : Prop where
  le : i ≤ (lnF t).length
  eq : parL 0 (lnF t) ⟨0, 0, 0, []⟩ = parL i ((lnF t).drop i) s
  words : s.words ≤ 1048576
  small : s.insts.length ≤ s.words
theorem drop_line {l : List Tx} {i : Nat} (h : i < l.length) : l.drop i = l.getD i [] :: l.drop (i + 1) := by
  rw [List.drop_eq_getElem_cons h]; simp [List.getD, h]
section
variable {t : Tx} {i : Nat} {s s' : PaL}
theorem PaI.start : PaI t 0 ⟨0, 0, 0, []⟩ := ⟨Nat.zero_le _, rfl, Nat.zero_le _, Nat.le_refl _⟩
theorem PaI.bad (h : PaI t i s) (hi : i < (lnF t).length) {e : Int} (he : parS ((lnF t).getD i []) s = .error e) : parL 0 (lnF t) ⟨0, 0, 0, []⟩ = zeroD e ((i : Int) + 1) := by
  rw [h.eq, drop_line hi, parL, he]
theorem PaI.step (h : PaI t i s) (hi : i < (lnF t).length) (he : parS ((lnF t).getD i []) s = .ok s') : PaI t (i + 1) s' := by
  refine ⟨hi, by rw [h.eq, drop_line hi, parL, he], ?_, ?_⟩
  · have h1 := h.words
    unfold parS at he
    split at he
    · split at he
      · cases he; omega
      · split at he
        · cases he
        · cases he; dsimp only; omega
    · split at he
      · cases he
      · split at he
        · cases he; omega
        · split at he
          · cases he
          · cases he; dsimp only; omega
  · have h1 := h.small
    unfold parS at he
    split at he
    · split at he
      · cases he; omega
      · split at he
        · cases he
        · cases he; exact Nat.zero_le _
    · split at he
      · cases he
      · split at he
        · cases he; omega
        · split at he
          · cases he
          · cases he; dsimp only; rw [List.length_append, List.length_singleton]; unfold roomI; omega
theorem PaI.fin (h : PaI t (lnF t).length s) : parL 0 (lnF t) ⟨0, 0, 0, []⟩ = if s.words = 0 then zeroD 72 (lnF t).length else ((s.gn, s.bd, s.insts), (0, 0)) := by
  rw [h.eq, List.drop_eq_nil_of_le (Nat.le_refl _), parL]
end
end Go.SK
namespace Go.SK
structure InstL.U32 (i : InstL) : Prop where
  ty : 0 ≤ i.ty ∧ i.ty < 4294967296
  res : 0 ≤ i.res ∧ i.res < 4294967296
  args : ∀ a ∈ i.args, 0 ≤ a.n ∧ a.n < 4294967296
end Go.SK
namespace Go.SK
theorem enums_u32 : namesL.all (fun x => decide (0 ≤ x.n ∧ x.n < 4294967296)) = true := by decide +kernel
theorem numLx_u32 (s : Tx) : 0 ≤ (numLx s).1 ∧ (numLx s).1 < 4294967296 := by
  unfold numLx
  cases h : plainF s with
  | some n => have := (plR_of h).2; dsimp only; omega
  | none =>
    dsimp only
    split
    · cases h2 : plainF (s.drop 1) with
      | none => exact ⟨by decide, by decide⟩
      | some n =>
        dsimp only
        split
        · dsimp only; omega
        · exact ⟨by decide, by decide⟩
    · split
      · exact ⟨by decide, by decide⟩
      · rename_i h3
        cases h2 : hexsF (s.drop 2) 0 with
        | none => exact ⟨by decide, by decide⟩
        | some n => have := hexs_bd h2 (by rw [List.length_drop]; omega); dsimp only; omega
theorem argT_u32 {c bound : Int} {t : TokL} (hb : bound ≤ 65536) : 0 ≤ (argT c t bound).1.n ∧ (argT c t bound).1.n < 4294967296 := by
  unfold argT
  split
  · exact ⟨by decide, by decide⟩
  split
  · split
    · exact ⟨by decide, by decide⟩
    · rename_i h
      have := idL_bd h
      dsimp only; omega
  split
  · split
    · exact ⟨show (0 : Int) ≤ 0 by decide, show (0 : Int) < 4294967296 by decide⟩
    · exact numLx_u32 _
  split
  · split
    · exact ⟨show (0 : Int) ≤ 0 by decide, show (0 : Int) < 4294967296 by decide⟩
    · exact ⟨show (0 : Int) ≤ 0 by decide, show (0 : Int) < 4294967296 by decide⟩
  split
  · exact ⟨by decide, by decide⟩
  · rename_i h
    cases hf : namesL.find? (enS c t.text) with
    | none => rw [hf] at h; exact absurd rfl h
    | some x => exact of_decide_eq_true (List.all_eq_true.1 enums_u32 x (List.mem_of_find?_eq_some hf))
theorem argsT_u32 {fm : FormL} {bound : Int} (hb : bound ≤ 65536) : ∀ (l : List TokL) (k : Nat), ∀ a ∈ (argsT fm bound k l).1, 0 ≤ a.n ∧ a.n < 4294967296
  | [], k, a, h => by cases h
  | t :: r, k, a, h => by
    unfold argsT at h
    split at h
    · cases h
    · rcases List.mem_cons.1 h with rfl | h
      · exact argT_u32 hb
      · exact argsT_u32 hb r (k + 1) a h
theorem lineO_good {n bound : Int} {l : List TokL} {fm : FormL} (hfm : refD fm.op = fm) (hb : bound ≤ 65536) (h : (lineO n l bound fm).2.2.1 = 0) : (lineO n l bound fm).2.1 = true ∧ faultF bound (lineO n l bound fm).1 = 0 ∧ (lineO n l bound fm).1.U32 ∧ (lineO n l bound fm).2.2 = (0, 0) := by
  unfold lineO at h ⊢
  split at h
  · cases h
  rename_i h1
  rw [if_neg h1]
  split at h
  · cases h
  rename_i h2
  rw [if_neg h2]
  split at h
  · cases h
  rename_i h3
  rw [if_neg h3]
  split at h
  · cases h
  rename_i h4
  rw [if_neg h4]
  split at h
  · cases h
  rename_i h5
  rw [if_neg h5]
  split at h
  · rename_i h6; exact absurd h h6
  rename_i h6
  rw [if_neg h6]
  split at h
  · cases h
  rename_i h7
  rw [if_neg h7]
  split at h
  · cases h
  rename_i h8
  rw [if_neg h8]
  have e1 := Classical.not_not.1 h1
  have hres : decide ((l.getD 0 tok0).kind = 2) = true → 1 ≤ (if (l.getD 0 tok0).kind = 2 then idL (l.getD 0 tok0).text bound else 0) ∧ (if (l.getD 0 tok0).kind = 2 then idL (l.getD 0 tok0).text bound else 0) < bound := fun hk => by
    have hk := of_decide_eq_true hk
    rw [if_pos hk]; exact idL_bd fun e => h2 ⟨hk, e⟩
  have hres0 : decide ((l.getD 0 tok0).kind = 2) = false → (if (l.getD 0 tok0).kind = 2 then idL (l.getD 0 tok0).text bound else 0) = 0 := fun hk => if_neg (of_decide_eq_false hk)
  have hty : fm.ty = true → 1 ≤ (if fm.ty = true then idL (l.getD (opAt l + 1) tok0).text bound else 0) ∧ (if fm.ty = true then idL (l.getD (opAt l + 1) tok0).text bound else 0) < bound := fun hk => by
    rw [if_pos hk]; exact idL_bd fun e => h5 ⟨hk, e⟩
  have hty0 : fm.ty = false → (if fm.ty = true then idL (l.getD (opAt l + 1) tok0).text bound else 0) = 0 := fun hk => if_neg (by rw [hk]; simp)
  have hf := line_fault (ty := if fm.ty = true then idL (l.getD (opAt l + 1) tok0).text bound else 0) (res := if (l.getD 0 tok0).kind = 2 then idL (l.getD 0 tok0).text bound else 0) hfm e1 hres hres0 hty hty0 (Classical.not_not.1 h6) (by simpa using h7)
  refine ⟨rfl, by rw [hf, if_neg h8], ⟨?_, ?_, argsT_u32 hb _ _⟩, rfl⟩
  · dsimp only
    cases ht : fm.ty with
    | false => rw [if_neg (by simp)]; exact ⟨by decide, by decide⟩
    | true => have := hty ht; rw [ht] at this; rw [if_pos rfl] at this ⊢; omega
  · dsimp only
    by_cases hk : (l.getD 0 tok0).kind = 2
    · have := hres (decide_eq_true hk); omega
    · rw [if_neg hk]; exact ⟨by decide, by decide⟩
theorem lineF_good {x : Tx} {bound : Int} (hb : bound ≤ 65536) (h : (lineF x bound).2.2.1 = 0) : (lineF x bound).2.2 = (0, 0) ∧ ((lineF x bound).2.1 = true → faultF bound (lineF x bound).1 = 0 ∧ (lineF x bound).1.U32) := by
  unfold lineF at h ⊢
  split at h
  · rename_i h1; exact absurd h h1
  rename_i h1
  rw [if_neg h1]
  unfold lineL at h ⊢
  split at h
  · rename_i h2
    rw [if_pos h2]; exact ⟨rfl, fun q => by cases q⟩
  rename_i h2
  rw [if_neg h2]
  split at h
  · cases h
  rename_i h3
  rw [if_neg h3]
  split at h
  · cases h
  rename_i h4
  rw [if_neg h4]
  split at h
  · cases h
  rename_i h5
  rw [if_neg h5]
  split at h
  · cases h
  rename_i h6
  rw [if_neg h6]
  split at h
  · cases h
  rename_i h7
  rw [if_neg h7]
  cases hf : refT.find? (nmF ((toksF x).1.getD (opAt (toksF x).1) tok0).text) with
  | none => rw [hf] at h7; exact absurd rfl h7
  | some fm =>
    rw [hf, Option.getD_some] at h
    rw [Option.getD_some]
    have hg := lineO_good (find_refD hf).2.1 hb h
    exact ⟨hg.2.2.2, fun _ => ⟨hg.2.1, hg.2.2.1⟩⟩
structure PaG (s : PaL) : Prop where
  none : s.words = 0 → s.insts = []
  gn : 0 ≤ s.gn ∧ s.gn < 4294967296
  bd : s.words ≠ 0 → 1 ≤ s.bd ∧ s.bd ≤ 65536
  words : s.words ≠ 0 → s.words = 5 + (s.insts.map fun i => roomI (refD i.op) i.args).sum
  le : s.words ≤ 1048576
  ok : ∀ i ∈ s.insts, faultF s.bd i = 0 ∧ i.U32
theorem headL_good {n : Int} {l : List TokL} (h : (headL n l).2.1 = 0) : (0 ≤ (headL n l).1.1 ∧ (headL n l).1.1 < 4294967296) ∧ (1 ≤ (headL n l).1.2 ∧ (headL n l).1.2 ≤ 65536) ∧ (headL n l).2 = (0, 0) := by
  unfold headL at h ⊢
  split at h
  · cases h
  rename_i h1
  rw [if_neg h1]
  split at h
  · cases h
  rename_i h2
  rw [if_neg h2]
  split at h
  · cases h
  rename_i h3
  rw [if_neg h3]
  split at h
  · cases h
  rename_i h4
  rw [if_neg h4]
  split at h
  · rename_i q; exact absurd h q
  rename_i h5
  rw [if_neg h5]
  split at h
  · cases h
  rename_i h6
  rw [if_neg h6]
  split at h
  · cases h
  rename_i h7
  rw [if_neg h7]
  split at h
  · rename_i q; exact absurd h q
  rename_i h8
  rw [if_neg h8]
  split at h
  · cases h
  rename_i h9
  rw [if_neg h9]
  split at h
  · cases h
  rename_i h10
  rw [if_neg h10]
  exact ⟨numLx_u32 _, by dsimp only; omega, rfl⟩
theorem headF_good {x : Tx} (h : (headF x).2.1 = 0) : (0 ≤ (headF x).1.1 ∧ (headF x).1.1 < 4294967296) ∧ (1 ≤ (headF x).1.2 ∧ (headF x).1.2 ≤ 65536) ∧ (headF x).2 = (0, 0) := by
  unfold headF at h ⊢
  split at h
  · rename_i q; exact absurd h q
  rename_i h1
  rw [if_neg h1]
  exact headL_good h
theorem PaG.start : PaG ⟨0, 0, 0, []⟩ := ⟨fun _ => rfl, ⟨by decide, by decide⟩, fun h => absurd rfl h, fun h => absurd rfl h, by decide, fun i h => by cases h⟩
theorem PaG.step {s s' : PaL} {x : Tx} (g : PaG s) (h : parS x s = .ok s') : PaG s' := by
  unfold parS at h
  split at h
  · rename_i h0
    split at h
    · cases h; exact g
    · split at h
      · cases h
      · rename_i h2
        cases h
        have hg := headF_good (Classical.not_not.1 h2)
        exact ⟨fun q => (by cases q), hg.1, fun _ => hg.2.1, fun _ => rfl, show (5 : Nat) ≤ 1048576 by decide, fun i hi => (by cases hi)⟩
  · rename_i h0
    split at h
    · cases h
    · rename_i h1
      have hg := lineF_good (g.bd h0).2 (Classical.not_not.1 h1)
      split at h
      · cases h; exact g
      · rename_i h2
        split at h
        · cases h
        · rename_i h3
          cases h
          have hi := hg.2 (by simpa using h2)
          refine ⟨fun q => absurd q (by dsimp only; omega), g.gn, fun _ => g.bd h0, fun _ => ?_, by dsimp only; omega, fun i hi2 => ?_⟩
          · have := g.words h0
            dsimp only
            rw [List.map_append, List.sum_append, List.map_singleton, List.sum_singleton]; omega
          · rcases List.mem_append.1 hi2 with hi2 | hi2
            · exact g.ok i hi2
            · obtain rfl := List.mem_singleton.1 hi2; exact hi
end Go.SK
namespace Go.SK
structure dgI (t : Tx) (m i n : Nat) : Prop where
  le : i ≤ t.length
  eq : digsF (t.drop i) n = some m
  lt : n ≤ m
  small : m < 4294967296
  pl : plR t = m
  len : t.length ≤ 10
section
variable {t : Tx} {m i n : Nat}
theorem dgI_start (h : plainF t = some m) : dgI t m 0 0 := by
  have h1 := plR_of h
  have hl : t.length ≤ 10 := by
    unfold plainF at h
    split at h
    · cases h
    · omega
  refine ⟨Nat.zero_le _, ?_, Nat.zero_le _, h1.2, h1.1, hl⟩
  unfold plainF at h
  split at h
  · cases h
  · cases hd : digsF t 0 with
    | none => rw [hd] at h; cases h
    | some k =>
      rw [hd] at h
      simp only [Option.bind_some] at h
      split at h
      · exact hd.trans h
      · cases h
theorem dgI_dig (h : dgI t m i n) (hi : i < t.length) : digB (t.getD i 0) = true := by
  cases hd : digB (t.getD i 0) with
  | true => rfl
  | false =>
    have := digs_stop (n := n) hi (by rw [hd]; simp)
    rw [h.eq] at this; cases this
theorem dgI_byte (h : dgI t m i n) (hi : i < t.length) : 48 ≤ (t.getD i 0).toNat ∧ (t.getD i 0).toNat ≤ 57 := of_decide_eq_true (dgI_dig h hi)
theorem dgI_step (h : dgI t m i n) (hi : i < t.length) : dgI t m (i + 1) (10 * n + ((t.getD i 0).toNat - 48)) := by
  have e := digs_step (n := n) hi (dgI_dig h hi)
  have e2 := h.eq
  rw [e] at e2
  exact ⟨hi, e2, digs_mono _ _ _ e2, h.small, h.pl, h.len⟩
theorem dgI_next (h : dgI t m i n) (hi : i < t.length) : 10 * n + ((t.getD i 0).toNat - 48) ≤ m := (dgI_step h hi).lt
theorem dgI_id {bound : Int} (h : dgI t m i n) (hi : t.length ≤ i) : idL t bound = if 1 ≤ (n : Int) ∧ (n : Int) < bound then (n : Int) else 0 := by
  have e := h.eq
  rw [digs_end hi] at e
  injection e with e
  unfold idL; rw [h.pl, ← e]
theorem dgI_bad {bound : Int} (h : dgI t m i n) (hi : t.length ≤ i) (hb : (n : Int) ≥ bound) : idL t bound = 0 := by rw [dgI_id h hi, if_neg (by omega)]
theorem dgI_ok {bound : Int} (h : dgI t m i n) (hi : t.length ≤ i) (hb : ¬ (n : Int) ≥ bound) : idL t bound = (n : Int) := by
  rw [dgI_id h hi]
  split
  · rfl
  · omega
end
end Go.SK
namespace Go.SK
section
variable {c bound : Int} {t : TokL}
theorem argT_kind (hc : c ≠ 0) (h : t.kind ≠ kindT c) : argT c t bound = (zeroA, 70) := if_pos (.inr h)
theorem argT_none : argT 0 t bound = (zeroA, 70) := if_pos (.inl rfl)
theorem argT_id0 (h : t.kind = 2) (h2 : idL t.text bound = 0) : argT 105 t bound = (zeroA, 43) := by
  unfold argT; rw [if_neg (by simp [kindT, h]), if_pos rfl, if_pos h2]
theorem argT_id (h : t.kind = 2) (h2 : idL t.text bound ≠ 0) : argT 105 t bound = (⟨1, idL t.text bound, []⟩, 0) := by
  unfold argT; rw [if_neg (by simp [kindT, h]), if_pos rfl, if_neg h2]
theorem argT_num0 (h : t.kind = 3) (h2 : (numLx t.text).2 ≠ 0) : argT 110 t bound = (zeroA, (numLx t.text).2) := by
  unfold argT; rw [if_neg (by simp [kindT, h]), if_neg (by decide), if_pos rfl, if_pos h2]
theorem argT_num (h : t.kind = 3) (h2 : (numLx t.text).2 = 0) : argT 110 t bound = (⟨2, (numLx t.text).1, []⟩, 0) := by
  unfold argT; rw [if_neg (by simp [kindT, h]), if_neg (by decide), if_pos rfl, if_neg (by rw [h2]; simp)]
theorem argT_txt0 (h : t.kind = 4) (h2 : zeroAt t.text ≠ t.text.length) : argT 115 t bound = (zeroA, 13) := by
  unfold argT; rw [if_neg (by simp [kindT, h]), if_neg (by decide), if_neg (by decide), if_pos rfl, if_pos h2]
theorem argT_txt (h : t.kind = 4) (h2 : zeroAt t.text = t.text.length) : argT 115 t bound = (⟨3, 0, t.text⟩, 0) := by
  unfold argT; rw [if_neg (by simp [kindT, h]), if_neg (by decide), if_neg (by decide), if_pos rfl, if_neg (by rw [h2]; simp)]
theorem kindT_enum (h : c ≠ 105) (h1 : c ≠ 110) (h2 : c ≠ 115) : kindT c = 1 := by unfold kindT; rw [if_neg h, if_neg h1, if_neg h2]
theorem argT_enum0 (h0 : c ≠ 0) (h : c ≠ 105) (h1 : c ≠ 110) (h2 : c ≠ 115) (hk : t.kind = 1) (hf : (namesL.find? (enS c t.text)).isSome = false) : argT c t bound = (zeroA, 71) := by
  unfold argT; rw [if_neg (by simp [kindT_enum h h1 h2, hk, h0]), if_neg h, if_neg h1, if_neg h2, if_pos hf]
theorem argT_enum (h0 : c ≠ 0) (h : c ≠ 105) (h1 : c ≠ 110) (h2 : c ≠ 115) (hk : t.kind = 1) (hf : (namesL.find? (enS c t.text)).isSome = true) : argT c t bound = (⟨4, ((namesL.find? (enS c t.text)).getD zeroN).n, []⟩, 0) := by
  unfold argT; rw [if_neg (by simp [kindT_enum h h1 h2, hk, h0]), if_neg h, if_neg h1, if_neg h2, if_neg (by rw [hf]; simp)]
end
end Go.SK
namespace Go.SK
section
variable {n bound : Int} {l : List TokL} {m : Nat} {fm : FormL} {res ty : Int} {q j : Nat} {ags : List ArgP}
structure LnA (l : List TokL) (m : Nat) : Prop where
  h0 : 0 < l.length
  k5 : (l.getD 0 tok0).kind = 2 → 1 < l.length ∧ (l.getD 1 tok0).kind = 5 ∧ m = 2
  k0 : ¬ (l.getD 0 tok0).kind = 2 → m = 0
theorem LnA.start (h0 : 0 < l.length) (h : ¬ (l.getD 0 tok0).kind = 2) : LnA l 0 := ⟨h0, fun q => absurd q h, fun _ => rfl⟩
theorem LnA.said (h : (l.getD 0 tok0).kind = 2) (h1 : 1 < l.length) (h5 : (l.getD 1 tok0).kind = 5) : LnA l 2 := ⟨by omega, fun _ => ⟨h1, h5, rfl⟩, fun q => absurd h q⟩
theorem LnA.le (h : LnA l m) : m ≤ l.length := by
  by_cases hk : (l.getD 0 tok0).kind = 2
  · have := h.k5 hk; omega
  · have := h.k0 hk; omega
theorem LnA.at (h : LnA l m) : opAt l = m := by
  unfold opAt
  by_cases hk : (l.getD 0 tok0).kind = 2
  · rw [if_pos hk, (h.k5 hk).2.2]
  · rw [if_neg hk, h.k0 hk]
theorem line_one (hk : (l.getD 0 tok0).kind = 2) (h0 : 0 < l.length) (h1 : l.length ≤ 1) : lineL n l bound = (zeroIL, false, (72, n)) := by
  unfold lineL; rw [if_neg (by omega), if_pos ⟨hk, by omega⟩]
theorem line_noeq (hk : (l.getD 0 tok0).kind = 2) (h1 : 1 < l.length) (h5 : (l.getD 1 tok0).kind ≠ 5) : lineL n l bound = (zeroIL, false, (70, (l.getD 1 tok0).at_)) := by
  unfold lineL; rw [if_neg (by omega), if_neg (fun q => by omega), if_pos ⟨hk, h5⟩]
theorem LnA.rest (h : LnA l m) : lineL n l bound = if l.length = m then (zeroIL, false, (72, n)) else if (l.getD m tok0).kind ≠ 1 then (zeroIL, false, (70, (l.getD m tok0).at_))
    else if (refT.find? (nmF (l.getD m tok0).text)).isSome = false then (zeroIL, false, (71, (l.getD m tok0).at_))
    else lineO n l bound ((refT.find? (nmF (l.getD m tok0).text)).getD zeroF) := by
  have h0 := h.h0
  unfold lineL
  rw [h.at]
  by_cases hk : (l.getD 0 tok0).kind = 2
  · obtain ⟨h1, h5, rfl⟩ := h.k5 hk
    rw [if_neg (by omega), if_neg (fun q => by omega), if_neg (fun q => q.2 h5)]
    by_cases h2 : l.length = 2
    · rw [if_pos ⟨hk, h2⟩, if_pos h2]
    · rw [if_neg (fun q => h2 q.2), if_neg h2]
  · obtain rfl := h.k0 hk
    rw [if_neg (by omega), if_neg (fun q => hk q.1), if_neg (fun q => hk q.1), if_neg (fun q => hk q.1)]
    conv => rhs; rw [if_neg (show ¬ l.length = 0 by omega)]
theorem LnA.early (h : LnA l m) (hl : l.length ≤ m) : lineL n l bound = (zeroIL, false, (72, n)) := by
  rw [h.rest, if_pos (by have := h.le; omega)]
theorem LnA.noword (h : LnA l m) (hl : m < l.length) (hk : (l.getD m tok0).kind ≠ 1) : lineL n l bound = (zeroIL, false, (70, (l.getD m tok0).at_)) := by
  rw [h.rest, if_neg (by omega), if_pos hk]
theorem LnA.noname (h : LnA l m) (hl : m < l.length) (hk : (l.getD m tok0).kind = 1) (hf : (refT.find? (nmF (l.getD m tok0).text)).isSome = false) : lineL n l bound = (zeroIL, false, (71, (l.getD m tok0).at_)) := by
  rw [h.rest, if_neg (by omega), if_neg (fun q => q hk), if_pos hf]
structure LnB (l : List TokL) (m : Nat) (fm : FormL) : Prop where
  a : LnA l m
  lt : m < l.length
  k1 : (l.getD m tok0).kind = 1
  fd : refT.find? (nmF (l.getD m tok0).text) = some fm
theorem LnB.mk2 (a : LnA l m) (lt : m < l.length) (k1 : (l.getD m tok0).kind = 1) (hs : (refT.find? (nmF (l.getD m tok0).text)).isSome = true) (hf : (refT.find? (nmF (l.getD m tok0).text)).getD zeroF = fm) : LnB l m fm := by
  refine ⟨a, lt, k1, ?_⟩
  obtain ⟨x, hx⟩ := Option.isSome_iff_exists.1 hs
  rw [hx] at hf ⊢
  exact congrArg some hf
theorem LnB.op (h : LnB l m fm) : refD fm.op = fm := (find_refD h.fd).2.1
theorem LnB.rest (h : LnB l m fm) : lineL n l bound = lineO n l bound fm := by
  rw [h.a.rest, if_neg (by have := h.lt; omega), if_neg (fun q => q h.k1), h.fd, if_neg (by simp)]; rfl
theorem LnB.nores (h : LnB l m fm) (hr : fm.res ≠ decide ((l.getD 0 tok0).kind = 2)) : lineL n l bound = (zeroIL, false, (41, (l.getD 0 tok0).at_)) := by
  rw [h.rest]; unfold lineO; rw [if_pos hr]
theorem LnB.noid (h : LnB l m fm) (hr : fm.res = decide ((l.getD 0 tok0).kind = 2)) (hk : (l.getD 0 tok0).kind = 2) (hi : idL (l.getD 0 tok0).text bound = 0) : lineL n l bound = (zeroIL, false, (43, (l.getD 0 tok0).at_)) := by
  rw [h.rest]; unfold lineO; rw [if_neg (fun q => q hr), if_pos ⟨hk, hi⟩]
structure LnC (bound : Int) (l : List TokL) (m : Nat) (fm : FormL) (res : Int) : Prop where
  b : LnB l m fm
  rs : fm.res = decide ((l.getD 0 tok0).kind = 2)
  r1 : (l.getD 0 tok0).kind = 2 → res = idL (l.getD 0 tok0).text bound ∧ res ≠ 0
  r0 : ¬ (l.getD 0 tok0).kind = 2 → res = 0
theorem LnC.pre (h : LnC bound l m fm res) : lineL n l bound = (if fm.ty = true ∧ l.length = m + 1 then (zeroIL, false, (72, n))
  else if fm.ty = true ∧ (l.getD (m + 1) tok0).kind ≠ 2 then (zeroIL, false, (70, (l.getD (m + 1) tok0).at_))
  else if fm.ty = true ∧ idL (l.getD (m + 1) tok0).text bound = 0 then (zeroIL, false, (43, (l.getD (m + 1) tok0).at_))
  else if (argsT fm bound 0 (l.drop (m + 1 + b2n fm.ty))).2.1 ≠ 0 then (zeroIL, false, (argsT fm bound 0 (l.drop (m + 1 + b2n fm.ty))).2)
  else if (fitsS fm.op ((argsT fm bound 0 (l.drop (m + 1 + b2n fm.ty))).1.map ArgP.kind)).2 = false then (zeroIL, false, (72, n))
  else if roomI fm (argsT fm bound 0 (l.drop (m + 1 + b2n fm.ty))).1 > 65535 then (zeroIL, false, (25, 0))
  else (⟨fm.op, if fm.ty = true then idL (l.getD (m + 1) tok0).text bound else 0, res, (argsT fm bound 0 (l.drop (m + 1 + b2n fm.ty))).1⟩, true, (0, 0))) := by
  rw [h.b.rest]
  have e : (if (l.getD 0 tok0).kind = 2 then idL (l.getD 0 tok0).text bound else 0) = res := by
    by_cases hk : (l.getD 0 tok0).kind = 2
    · rw [if_pos hk, (h.r1 hk).1]
    · rw [if_neg hk, h.r0 hk]
  unfold lineO
  rw [if_neg (fun q => q h.rs), if_neg (fun q => (h.r1 q.1).2 ((h.r1 q.1).1.trans q.2)), h.b.a.at, e]
theorem LnC.early (h : LnC bound l m fm res) (ht : fm.ty = true) (hl : l.length ≤ m + 1) : lineL n l bound = (zeroIL, false, (72, n)) := by
  rw [h.pre, if_pos ⟨ht, by have := h.b.lt; omega⟩]
theorem LnC.notid (h : LnC bound l m fm res) (ht : fm.ty = true) (hl : m + 1 < l.length) (hk : (l.getD (m + 1) tok0).kind ≠ 2) : lineL n l bound = (zeroIL, false, (70, (l.getD (m + 1) tok0).at_)) := by
  rw [h.pre, if_neg (fun q => by omega), if_pos ⟨ht, hk⟩]
theorem LnC.noid (h : LnC bound l m fm res) (ht : fm.ty = true) (hl : m + 1 < l.length) (hk : (l.getD (m + 1) tok0).kind = 2) (hi : idL (l.getD (m + 1) tok0).text bound = 0) : lineL n l bound = (zeroIL, false, (43, (l.getD (m + 1) tok0).at_)) := by
  rw [h.pre, if_neg (fun q => by omega), if_neg (fun q => q.2 hk), if_pos ⟨ht, hi⟩]
structure LnI (bound : Int) (l : List TokL) (m : Nat) (fm : FormL) (res ty : Int) (q : Nat) : Prop where
  c : LnC bound l m fm res
  t1 : fm.ty = true → ty = idL (l.getD (m + 1) tok0).text bound ∧ ty ≠ 0 ∧ m + 1 < l.length ∧ (l.getD (m + 1) tok0).kind = 2
  t0 : fm.ty = false → ty = 0
  qe : q = m + 1 + b2n fm.ty
theorem LnI.yes (c : LnC bound l m fm res) (ht : fm.ty = true) (h : ty = idL (l.getD (m + 1) tok0).text bound) (h0 : idL (l.getD (m + 1) tok0).text bound ≠ 0) (hl : m + 1 < l.length) (hk : (l.getD (m + 1) tok0).kind = 2) : LnI bound l m fm res ty (m + 2) := ⟨c, fun _ => ⟨h, (by rw [h]; exact h0), hl, hk⟩, fun q => (by rw [ht] at q; cases q), (by rw [ht]; rfl)⟩
theorem LnI.no (c : LnC bound l m fm res) (ht : fm.ty = false) : LnI bound l m fm res 0 (m + 1) := ⟨c, fun q => (by rw [ht] at q; cases q), fun _ => rfl, by rw [ht]; rfl⟩
theorem LnI.le (h : LnI bound l m fm res ty q) : q ≤ l.length := by
  have h1 := h.c.b.lt
  have h2 := h.qe
  cases ht : fm.ty with
  | false => rw [ht] at h2; unfold b2n at h2; simp at h2; omega
  | true => have := h.t1 ht; rw [ht] at h2; unfold b2n at h2; simp at h2; omega
theorem LnI.rest (h : LnI bound l m fm res ty q) : lineL n l bound = (if (argsT fm bound 0 (l.drop q)).2.1 ≠ 0 then (zeroIL, false, (argsT fm bound 0 (l.drop q)).2)
  else if (fitsS fm.op ((argsT fm bound 0 (l.drop q)).1.map ArgP.kind)).2 = false then (zeroIL, false, (72, n))
  else if roomI fm (argsT fm bound 0 (l.drop q)).1 > 65535 then (zeroIL, false, (25, 0))
  else (⟨fm.op, ty, res, (argsT fm bound 0 (l.drop q)).1⟩, true, (0, 0))) := by
  rw [h.c.pre, ← h.qe]
  have e : (if fm.ty = true then idL (l.getD (m + 1) tok0).text bound else 0) = ty := by
    by_cases ht : fm.ty = true
    · rw [if_pos ht, (h.t1 ht).1]
    · rw [if_neg ht, h.t0 (by simpa using ht)]
  rw [if_neg (fun q => by have := (h.t1 q.1).2.2.1; omega), if_neg (fun q => q.2 (h.t1 q.1).2.2.2), if_neg (fun q => (h.t1 q.1).2.1 ((h.t1 q.1).1.trans q.2)), e]
theorem LnI.bad (h : LnI bound l m fm res ty q) (hA : ArI fm bound l q j ags) (hj : q + j < l.length) (he : (argT (letterS fm j) (l.getD (q + j) tok0) bound).2 ≠ 0) : lineL n l bound = (zeroIL, false, ((argT (letterS fm j) (l.getD (q + j) tok0) bound).2, (l.getD (q + j) tok0).at_)) := by
  have hb := hA.bad hj he
  rw [h.rest, if_pos (by rw [hb]; exact he), hb]
theorem LnI.zero (h : LnI bound l m fm res ty q) (hA : ArI fm bound l q j ags) (hj : q + j < l.length) (hc : letterS fm j = 0) : lineL n l bound = (zeroIL, false, (70, (l.getD (q + j) tok0).at_)) := by
  have e : argT (letterS fm j) (l.getD (q + j) tok0) bound = (zeroA, 70) := by rw [hc]; exact argT_none
  rw [h.bad hA hj (by rw [e]; decide), e]
theorem LnI.nofit (h : LnI bound l m fm res ty q) (hA : ArI fm bound l q j ags) (hj : l.length ≤ q + j) (hf : (fitsS fm.op (ags.map ArgP.kind)).2 = false) : lineL n l bound = (zeroIL, false, (72, n)) := by
  rw [h.rest, hA.fin hj, if_neg (by simp), if_pos hf]
theorem LnI.fit (h : LnI bound l m fm res ty q) (hA : ArI fm bound l q j ags) (hj : l.length ≤ q + j) (hf : (fitsS fm.op (ags.map ArgP.kind)).2 = true) : lineL n l bound = (if roomI fm ags > 65535 then (zeroIL, false, (25, 0)) else (⟨fm.op, ty, res, ags⟩, true, (0, 0))) ∧ faultF bound ⟨fm.op, ty, res, ags⟩ = if roomI fm ags > 65535 then 25 else 0 := by
  have hfin := hA.fin hj
  refine ⟨by rw [h.rest, hfin, if_neg (by simp), if_neg (by rw [hf]; simp)], ?_⟩
  have := line_fault (fm := fm) (bound := bound) (said := fm.res) (ty := ty) (res := res) (l := l.drop q) h.c.b.op rfl (fun hr => by
      rw [h.c.rs] at hr
      have h1 := h.c.r1 (of_decide_eq_true hr)
      rw [h1.1]; exact idL_bd (by rw [← h1.1]; exact h1.2)) (fun hr => by
      rw [h.c.rs] at hr
      exact h.c.r0 (of_decide_eq_false hr)) (fun ht => by
      have h1 := h.t1 ht
      rw [h1.1]; exact idL_bd (by rw [← h1.1]; exact h1.2.1)) h.t0 (by rw [hfin]) (by rw [hfin]; exact hf)
  rw [hfin] at this
  exact this
end
end Go.SK
namespace Go.SK
open Go.RowKit
theorem Run.cutG {α : Type} {P : Program} {b : Base} {l : Nat} {X : Code} {k K : List Item} {E : Frame → World → Prop} {w0 : World} {M : Nat → Prop} {L1 L2 D : List Res} {F : Nat → Value} {w : World} (hg : gotoIn l K = some (.code (.seq .skip X) :: k)) (kv : List (Nat × Value)) (hst : St w0 M (L1 ++ L2) D w) (hkv : Slots F kv) (st : α → List (Nat × Value)) (Lm : α → List Res) (J : α → Prop)
    (h2 : ∀ (a : α) (f : Nat → Value) (w : World), St w0 M (Lm a ++ L2) D w → J a → Run P b (.code X :: k) (sts (st a) (sts kv f)) w E)
    (h1 : (∀ (a : α) (f : Nat → Value) (w : World), St w0 M (Lm a ++ L2) D w → J a → Slots f kv → Slots f (st a) → Run P b (.code X :: k) f w E) → Run P b K F w E) : Run P b K F w E :=
  h1 fun a f w hs hJ hk hsl => by
    have := h2 a f w hs hJ
    rw [sts_self hk] at this
    rwa [sts_self hsl] at this
theorem idL_no {t : Tx} {bound : Int} (h : (!decide (1 ≤ (plR t : Int) ∧ (plR t : Int) < bound)) = true) : idL t bound = 0 := if_neg (by simp only [Bool.not_eq_true', decide_eq_false_iff_not] at h; exact h)
theorem idL_is {t : Tx} {bound : Int} (h : (!decide (1 ≤ (plR t : Int) ∧ (plR t : Int) < bound)) = false) : idL t bound = (plR t : Int) ∧ idL t bound ≠ 0 := by
  have h2 : 1 ≤ (plR t : Int) ∧ (plR t : Int) < bound := by simp only [Bool.not_eq_false', decide_eq_true_eq] at h; exact h
  have e : idL t bound = (plR t : Int) := if_pos h2
  exact ⟨e, by omega⟩
theorem wsz_drop (l : List TokL) : ∀ q, wsz (l.drop q) ≤ wsz l := fun q => by
  induction q with
  | zero => exact Nat.le_refl _
  | succ q ih =>
    rcases Nat.lt_or_ge q l.length with h | h
    · have := wsz_get h; omega
    · rw [List.drop_eq_nil_of_le (by omega)]; exact Nat.zero_le _
theorem refT_op : refT.all (fun f => decide (0 ≤ f.op ∧ f.op < 65536)) = true := by decide +kernel
section
variable {n bound : Int} {l : List TokL} {m : Nat} {fm : FormL} {res ty : Int} {q j : Nat} {ags : List ArgP}
theorem LnB.op0 (h : LnB l m fm) : 0 ≤ fm.op ∧ fm.op < 65536 := of_decide_eq_true (List.all_eq_true.1 refT_op fm (List.mem_of_find?_eq_some h.fd))
theorem ArI.small {N : Nat} (h : ArI fm bound l q j ags) (hts : wsz l ≤ 7 * N) (hll : l.length ≤ N) (hN : N ≤ 16777216) : (ags.map argRoom).sum ≤ 900000000 ∧ ∀ a ∈ ags, a.s.length ≤ 100000000000 := by
  have h1 := h.sum
  have h2 := h.le
  have h3 := wsz_drop l q
  refine ⟨by omega, fun a ha => ?_⟩
  have := h.tx a ha
  omega
theorem LnI.wrong (h : LnI bound l m fm res ty q) (hA : ArI fm bound l q j ags) (hj : l.length ≤ q + j) (hf : (fitsS fm.op (ags.map ArgP.kind)).2 = true) {re : Int} (hre : re = faultF bound ⟨fm.op, ty, res, ags⟩) (h0 : re ≠ 0) : lineL n l bound = (zeroIL, false, (re, 0)) := by
  have h1 := h.fit (n := n) hA hj hf
  rw [h1.2] at hre
  by_cases hr : roomI fm ags > 65535
  · rw [if_pos hr] at hre; rw [h1.1, if_pos hr, hre]
  · rw [if_neg hr] at hre; exact absurd hre h0
theorem LnI.good (h : LnI bound l m fm res ty q) (hA : ArI fm bound l q j ags) (hj : l.length ≤ q + j) (hf : (fitsS fm.op (ags.map ArgP.kind)).2 = true) {re : Int} (hre : re = faultF bound ⟨fm.op, ty, res, ags⟩) (h0 : re = 0) : lineL n l bound = (⟨fm.op, ty, res, ags⟩, true, (0, 0)) := by
  have h1 := h.fit (n := n) hA hj hf
  rw [h1.2, h0] at hre
  by_cases hr : roomI fm ags > 65535
  · rw [if_pos hr] at hre; cases hre
  · rw [h1.1, if_neg hr]
end
end Go.SK
namespace Go.SK
open Go.RowKit
def InstL.Sm (i : InstL) : Prop := (i.args.map argRoom).sum ≤ 900000000 ∧ (∀ a ∈ i.args, a.s.length ≤ 100000000000) ∧ (0 ≤ i.op ∧ i.op < 65536)
theorem zeroIL_sm : zeroIL.Sm := ⟨by decide, (fun a h => by cases h), by decide⟩
theorem toksF_plain (s : Tx) : ∀ i, i < (toksF s).1.length → ((toksF s).1.getD i tok0).kind = 2 → ∃ m, plainF ((toksF s).1.getD i tok0).text = some m := fun i hi hk => by
  obtain ⟨o, ho⟩ := toks_wr s.length s 0
  have hw := (retok_get _ o 0 i ho hi).2
  have hw2 : wrT ((toksF s).1.getD i tok0) = some _ := hw
  unfold wrT at hw2
  rw [if_neg (by rw [hk]; decide), if_pos hk] at hw2
  split at hw2
  · rename_i h; exact isSome_ex h
  · cases hw2
section
variable {n bound : Int} {l : List TokL} {m : Nat} {fm : FormL} {res ty : Int} {q j : Nat} {ags : List ArgP}
theorem LnC.badty (h : LnC bound l m fm res) (ht : fm.ty = true) (hl : m + 1 < l.length) (he : (argT 105 (l.getD (m + 1) tok0) bound).2 ≠ 0) : lineL n l bound = (zeroIL, false, ((argT 105 (l.getD (m + 1) tok0) bound).2, (l.getD (m + 1) tok0).at_)) := by
  by_cases hk : (l.getD (m + 1) tok0).kind = 2
  · by_cases hi : idL (l.getD (m + 1) tok0).text bound = 0
    · rw [argT_id0 hk hi, h.noid ht hl hk hi]
    · rw [argT_id hk hi] at he; exact absurd rfl he
  · rw [argT_kind (c := 105) (by decide) hk, h.notid ht hl hk]
theorem LnI.ofArg (h : LnC bound l m fm res) (ht : fm.ty = true) (hl : m + 1 < l.length) (he : (argT 105 (l.getD (m + 1) tok0) bound).2 = 0) : LnI bound l m fm res (argT 105 (l.getD (m + 1) tok0) bound).1.n (m + 2) := by
  by_cases hk : (l.getD (m + 1) tok0).kind = 2
  · by_cases hi : idL (l.getD (m + 1) tok0).text bound = 0
    · rw [argT_id0 hk hi] at he; cases he
    · rw [argT_id hk hi]; exact LnI.yes h ht rfl hi hl hk
  · rw [argT_kind (c := 105) (by decide) hk] at he; cases he
theorem LnI.big (h : LnI bound l m fm res ty q) (hA : ArI fm bound l q j ags) (hj : l.length ≤ q + j) (hf : (fitsS fm.op (ags.map ArgP.kind)).2 = true) (hr : roomI fm ags > 65535) : lineL n l bound = (zeroIL, false, (25, 0)) := by
  rw [(h.fit hA hj hf).1, if_pos hr]
theorem LnI.fine (h : LnI bound l m fm res ty q) (hA : ArI fm bound l q j ags) (hj : l.length ≤ q + j) (hf : (fitsS fm.op (ags.map ArgP.kind)).2 = true) (hr : ¬ roomI fm ags > 65535) : lineL n l bound = (⟨fm.op, ty, res, ags⟩, true, (0, 0)) := by
  rw [(h.fit hA hj hf).1, if_neg hr]
theorem lineF_of {s : Tx} (h : ¬ (toksF s).2.1 ≠ 0) : lineF s bound = lineL s.length (toksF s).1 bound := if_neg h
theorem lineF_bad {s : Tx} (h : (toksF s).2.1 ≠ 0) : lineF s bound = (zeroIL, false, (toksF s).2) := if_pos h
theorem lineF_idle {s : Tx} (h : ¬ (toksF s).2.1 ≠ 0) (h0 : (toksF s).1.length = 0) : lineF s bound = (zeroIL, false, (toksF s).2) := by
  rw [lineF_of h, toksF_zero (Classical.not_not.1 h)]
  unfold lineL; rw [if_pos h0]
end
end Go.SK
namespace Go.SK
structure HdI (l : List TokL) (k : Nat) (gn bd : Int) : Prop where
  le : k ≤ 3 ∧ k ≤ l.length
  k0 : 0 < k → (l.getD 0 tok0).kind = 1 ∧ (l.getD 0 tok0).text = modW
  k1 : 1 < k → (l.getD 1 tok0).kind = 3 ∧ (numLx (l.getD 1 tok0).text).2 = 0 ∧ gn = (numLx (l.getD 1 tok0).text).1
  k2 : 2 < k → (l.getD 2 tok0).kind = 3 ∧ (numLx (l.getD 2 tok0).text).2 = 0 ∧ bd = (numLx (l.getD 2 tok0).text).1 ∧ ¬ (bd < 1 ∨ 65536 < bd)
section
variable {n : Int} {l : List TokL} {k : Nat} {gn bd : Int}
theorem HdI.start (l : List TokL) : HdI l 0 0 0 := ⟨⟨by decide, Nat.zero_le _⟩, fun h => absurd h (by decide), fun h => absurd h (by decide), fun h => absurd h (by decide)⟩
theorem HdI.from1 (h : HdI l k gn bd) (h1 : 0 < k) (hl : 1 < l.length) : headL n l =
    if (l.getD 1 tok0).kind ≠ 3 then ((0, 0), (70, (l.getD 1 tok0).at_))
    else if (numLx (l.getD 1 tok0).text).2 ≠ 0 then ((0, 0), ((numLx (l.getD 1 tok0).text).2, (l.getD 1 tok0).at_))
    else if l.length = 2 then ((0, 0), (72, n))
    else if (l.getD 2 tok0).kind ≠ 3 then ((0, 0), (70, (l.getD 2 tok0).at_))
    else if (numLx (l.getD 2 tok0).text).2 ≠ 0 then ((0, 0), ((numLx (l.getD 2 tok0).text).2, (l.getD 2 tok0).at_))
    else if (numLx (l.getD 2 tok0).text).1 < 1 ∨ 65536 < (numLx (l.getD 2 tok0).text).1 then ((0, 0), (24, (l.getD 2 tok0).at_))
    else if 3 < l.length then ((0, 0), (70, (l.getD 3 tok0).at_))
    else (((numLx (l.getD 1 tok0).text).1, (numLx (l.getD 2 tok0).text).1), (0, 0)) := head3 (h.k0 h1).1 (h.k0 h1).2 hl
theorem HdI.from2 (h : HdI l k gn bd) (h1 : 1 < k) (hl : 2 < l.length) : headL n l =
    if (l.getD 2 tok0).kind ≠ 3 then ((0, 0), (70, (l.getD 2 tok0).at_))
    else if (numLx (l.getD 2 tok0).text).2 ≠ 0 then ((0, 0), ((numLx (l.getD 2 tok0).text).2, (l.getD 2 tok0).at_))
    else if (numLx (l.getD 2 tok0).text).1 < 1 ∨ 65536 < (numLx (l.getD 2 tok0).text).1 then ((0, 0), (24, (l.getD 2 tok0).at_))
    else if 3 < l.length then ((0, 0), (70, (l.getD 3 tok0).at_))
    else ((gn, (numLx (l.getD 2 tok0).text).1), (0, 0)) := by
  obtain ⟨q1, q2, q3⟩ := h.k1 h1
  rw [h.from1 (by omega) (by omega), if_neg (fun q => q q1), if_neg (fun q => q q2), if_neg (by omega), ← q3]
theorem HdI.from3 (h : HdI l k gn bd) (h1 : 2 < k) (hl : 2 < l.length) : headL n l =
    if 3 < l.length then ((0, 0), (70, (l.getD 3 tok0).at_)) else ((gn, bd), (0, 0)) := by
  obtain ⟨q1, q2, q3, q4⟩ := h.k2 h1
  rw [h.from2 (by omega) hl, if_neg (fun q => q q1), if_neg (fun q => q q2), ← q3, if_neg q4]
theorem HdI.num (h : HdI l k gn bd) (hk : 0 < k) (h3 : ¬ k = 3) (hl : k < l.length) (hb : (l.getD k tok0).kind = 3) (hn : (numLx (l.getD k tok0).text).2 ≠ 0) : headL n l = ((0, 0), ((numLx (l.getD k tok0).text).2, (l.getD k tok0).at_)) := by
  have hle := h.le
  rcases (show k = 1 ∨ k = 2 by omega) with rfl | rfl
  · rw [h.from1 (by omega) (by omega), if_neg (fun q => q hb), if_pos hn]
  · rw [h.from2 (by omega) (by omega), if_neg (fun q => q hb), if_pos hn]
theorem HdI.bound (h : HdI l k gn bd) (hk : k = 2) (hl : k < l.length) (hb : (l.getD k tok0).kind = 3) (hn : (numLx (l.getD k tok0).text).2 = 0) (hq : (numLx (l.getD k tok0).text).1 < 1 ∨ 65536 < (numLx (l.getD k tok0).text).1) : headL n l = ((0, 0), (24, (l.getD k tok0).at_)) := by
  subst hk
  rw [h.from2 (by omega) (by omega), if_neg (fun q => q hb), if_neg (fun q => q hn), if_pos hq]
theorem HdI.step1 (h : HdI l k gn bd) (hk : k = 1) (hl : k < l.length) (hb : (l.getD k tok0).kind = 3) (hn : (numLx (l.getD k tok0).text).2 = 0) : HdI l (k + 1) (numLx (l.getD k tok0).text).1 bd := by
  subst hk
  exact ⟨⟨by omega, by omega⟩, fun _ => h.k0 (by omega), fun _ => ⟨hb, hn, rfl⟩, fun q => absurd q (by omega)⟩
theorem HdI.fin (h : HdI l k gn bd) (hl : l.length ≤ k) (h3 : ¬ l.length < 3) : headL n l = ((gn, bd), (0, 0)) := by
  have hle := h.le
  rw [h.from3 (by omega) (by omega), if_neg (by omega)]
end
end Go.SK
namespace Go.SK
open Go.RowKit
variable {P : Program} {b : Base} {k : List Item} {E : Frame → World → Prop} {ops : Array Oper} {f : Nat → Value} {w0 w : World} {M : Nat → Prop} {L D : List Res} {pd : Pend} {tk : Takes} {bs : List Nat} {ds : List (Option Nat)} {i : Nat} {l : List Oper} {ws : Nat → Word}
theorem RunD.opP {d : Option Tmp} {op : Op} {ty : TypeId} {pos : String} {aft : Array Edge} (wd : PWord) (htab : DrawTab ops bs ds) (i' : Nat)
    (hv : ∀ f' L' w', Know1 tk bs ds f w0 M L D i ws f' L' w' → (∀ j r r', (j, r, r') ∈ pd → bitB (bs.getD j 0) i = true → r ∈ L') → Op1 P op ty (ev b.n f') w' (fun v w'' => ∃ rs, wd v rs ∧ St w0 M (rs ++ (L' ++ L)) D w''))
    (h : RunD tk pd P b ops bs ds k E f w0 M L D w i' l (updW ws i (cw wd))) (hi : i + 1 = i' := by rfl) (hd : isDefer op = false := by rfl) (hp : (pd.all fun p => !(Nat.beq p.1 i)) = true := by rfl) (hk : tkNo tk i = true := by rfl) : RunD tk pd P b ops bs ds k E f w0 M L D w i (⟨d, op, ty, pos, aft, none⟩ :: l) ws := by
  subst hi
  refine RunD.cons (cw wd) (fun ho φ hφ hi2 o ho' f' L' L'' w' hc => ?_) h
  rw [ho] at ho'
  obtain rfl := Option.some.inj ho'
  refine .inl ⟨rfl, hd, ?_⟩
  have := hv f' L' w' (know1_of htab hφ ho hc) (fun j r r' hp hb => hc.later (j, r, r') hp (by rw [htab.waits, bitB_eq]; exact hb))
  rw [hi2, hc.turn.same (plain_of hp) (tkNo_spec hk)]
  exact this
theorem Rem.perm2 {r : Res} {A X : List Res} (h : Rem r A X) : A.Perm (r :: X) := by
  induction h with
  | here => exact List.Perm.refl _
  | there _ ih => exact (List.Perm.cons _ ih).trans (List.Perm.swap _ _ _)
theorem Rem.mem2 {r : Res} {A X : List Res} (h : Rem r A X) : r ∈ A := (h.perm2.mem_iff).2 (.head _)
theorem St.callRem {A X : List Res} {r r' : Res} {w' w'' : World} (h : St w0 M A D w') (hr : Rem r A X) (hc : St w' r.foot [r'] [] w'') : St w0 M (r' :: X) D w'' :=
  (h.perm hr.perm2).call1 hc
end Go.SK
namespace Go.SK
open Go Go.Proofs
theorem ty3 : TyF Tryz.prog 3 (.int .i64) 1 8 [.int .i64 0] := TyF.of (by kernel_rfl) (by kernel_rfl)
theorem ent195 : Enters Tryz.prog 195 := ⟨Tryz.f195, _, Tryz.func195, by kernel_rfl, rfl⟩
theorem ty258 : TyF Tryz.prog 258 (.array 24 5) 24 24 [.int .u8 0, .int .u8 0, .int .u8 0, .int .u8 0, .int .u8 0, .int .u8 0, .int .u8 0, .int .u8 0, .int .u8 0, .int .u8 0, .int .u8 0, .int .u8 0, .int .u8 0, .int .u8 0, .int .u8 0, .int .u8 0, .int .u8 0, .int .u8 0, .int .u8 0, .int .u8 0, .int .u8 0, .int .u8 0, .int .u8 0, .int .u8 0] := TyF.of (by kernel_rfl) (by kernel_rfl)
theorem ent196 : Enters Tryz.prog 196 := ⟨Tryz.f196, _, Tryz.func196, by kernel_rfl, rfl⟩
theorem ent197 : Enters Tryz.prog 197 := ⟨Tryz.f197, _, Tryz.func197, by kernel_rfl, rfl⟩
theorem ty38 : TyF Tryz.prog 38 (.slice 5) 1 24 [.slice none 0 0] := TyF.of (by kernel_rfl) (by kernel_rfl)
theorem ent151 : Enters Tryz.prog 151 := ⟨Tryz.f151, _, Tryz.func151, by kernel_rfl, rfl⟩
end Go.SK
namespace Go.SK
open Go Go.Proofs
open Go.RowKit
theorem lx_FB (b u k : Nat) (xs : List Value) (hx : xs = List.replicate 24 (Value.int .u8 0)) (w : World) (hR : (Res.row b 258 xs).holds w) (hk : k = Lib.nDigits u) (hu : u < 4294967296) : Ret Tryz.prog 197 #[.slice (some ⟨b, 0, none⟩) k 24, .int .u64 (u : Int)] w (fun v w' => ∃ ys, (ys.drop 0).take k = (Lib.decDigits u).flatMap byC ∧ v = .tuple #[] ∧ St w (Res.row b 258 xs).foot [Res.row b 258 ys] [] w') := by
 have h10 : Lib.nDigits u ≤ 10 := nDigits_le (u := u) (k := 9) (by omega)
 have hsz : (Array.replicate k (0 : UInt8)).size = k := by simp
 have hpow := Lib.lt_pow_nDigits u
 have hc := Any.internal_strconv_formatBase10 lx_lays285 b 0 24 u (Array.replicate k (0 : UInt8)) w (fun j hj => ?_) (by rw [hsz, hk]; exact hpow) (by omega) (by rw [hsz]; omega)
 · rw [hsz] at hc
   refine Calls.mono hc ?_
   rintro e w' ⟨he, n, v', dk, rfl, hf⟩
   obtain ⟨hkp, hnew⟩ := putRow_kept (fun (b : UInt8) => Value.int .u8 (b.toNat : Int)) w b 0 dk n hR
   refine ⟨_, he, _, ?_, rfl, (St.enter1 hR (fun d hd => by cases hd) (fun d hd => by cases hd)).upd .here hkp (r' := Res.row b 258 (Sort.putCells (fun (b : UInt8) => Value.int .u8 (b.toNat : Int)) 0 dk xs.toArray).toList) ?_ (fun c hc => .inl hc)⟩
   · rw [List.drop_zero]; exact fmt_row hf hk xs (by rw [hx, List.length_replicate]; omega)
   · show _ = some _
     rw [hnew]
 · rw [hsz] at hj
   have hR' : w.heap[b]? = some (.cells xs.toArray 258 (0, 0)) := hR
   refine ⟨?_, by simp [World.frozen?, hR']⟩
   have hx2 : xs[j]? = some (.int .u8 0) := by rw [hx, List.getElem?_replicate, if_pos (by omega)]
   simp [World.cell?, hR', hx2, hj]
theorem R7lx_iFU (u : Nat) (hu : u < 4294967296) (w : World) (hG : LxG.holds w) : Ret Tryz.prog 151 #[.int .u64 (u : Int), .int .i64 10] w (fun v w' => v = str (Lib.decDigits u) ∧ St w NoM [] [] w') := by
 refine Ret.enter (args := [.int .u64 (u : Int), .int .i64 10]) Tryz.func151 rfl rfl rfl ?_
 have hst : St w NoM [] [LxG] w := St.init_Ds (by simp only [List.forall_mem_cons]; exact ⟨hG, fun _ h => absurd h List.not_mem_nil⟩)
 have h10 : Lib.nDigits u ≤ 10 := nDigits_le (u := u) (k := 9) (by omega)
 have hpos := Lib.nDigits_pos u
 refine SR <| AS rfl <| NL <| SQ <| SR <| MI rfl <| CN <| Op1.eql rfl rfl <| NL <| run_cond_dec rfl (fun g1 => ?_) (fun g1 => ?_)
 · skip
   refine SQ <| SR <| CN <| Op1.move (v := .int .u64 _) rfl <| CN <| Op1.lss rfl rfl <| NL <| run_cond_dec rfl (fun g2 => ?_) (fun g2 => ?_)
   · skip
     refine SR <| CN (Op1.move (v := .int .u64 _) rfl ?_)
     first | refine CN (Op1.convN ty149 ty3 rfl (wrap_i64 (by omega) (by omega)) ?_) | refine CN (Op1.conv ty149 ty3 rfl ?_)
     refine CN <| Op1.call1 (v1 := .int .i64 _) ent195 rfl rfl <| Ret.det (lx_small u (by omega) _) hst fun w hst => AS rfl <| NL <| run_ret1 Tryz.func151 rfl (TP (v := str _) rfl) ?_
     exact ⟨rfl, hst.pure⟩
   refine run_skip <| SR <| CN <| Op1.alloc hst ty258 fun w b5 hst => NSR <| CN <| Op1.move (v := .int .u64 _) rfl <| CN <| Op1.call1 (v1 := .int .u64 _) ent196 rfl rfl <| Ret.det (lx_numDigits u _ (hst.hD _ (.head _)) (by omega) (by omega)) hst fun w hst => AI rfl <| NSR <| MI rfl <| CN (Op1.sliceArrTo (hi := Lib.nDigits u) ty258 ty5 rfl rfl rfl (by omega) ?_)
   refine CN <| Op1.move (v := .int .u64 _) rfl <| CN (Op1.call2 (v1 := .slice _ _ _) (v2 := .int .u64 _) ent197 rfl rfl rfl ((lx_FB b5 u _ _ rfl _ (hst.hL _ (.head _)) rfl (by omega)).mono fun v w hp => ?_))
   obtain ⟨ys, hys, rfl, hp⟩ := hp
   replace hst := hst.call1 hp
   clear hp
   replace hst : St _ _ [Res.row b5 258 ys] _ _ := hst
   refine NSR <| MI rfl <| CN <| Op1.sliceArrTo (hi := Lib.nDigits u) ty258 ty5 rfl rfl rfl (by omega) <| CN <| Op1.bytesStr2 (l := Lib.decDigits u) ty38 ty5 ty9 rfl (dec_len u).symm ⟨by rw [flat_len (es := 1) (fun _ => rfl), dec_len, Nat.mul_one], .inr ⟨b5, 0, rfl, cells_of_obj (n := Lib.nDigits u) (hst.objL (.head _)) _ hys⟩⟩ rfl <| AS rfl <| NL <| run_ret1 Tryz.func151 rfl (TP (v := str _) rfl) ?_
   exact ⟨rfl, hst.pure⟩
 exfalso
 exact g1 rfl
theorem R7lx_FU (u : Nat) (hu : u < 4294967296) (w : World) (hG : LxG.holds w) : Ret Tryz.prog 97 #[.int .u64 (u : Int), .int .i64 10] w (fun v w' => v = str (Lib.decDigits u) ∧ St w NoM [] [] w') := by
 refine Ret.enter (args := [.int .u64 (u : Int), .int .i64 10]) Tryz.func97 rfl rfl rfl ?_
 have hst : St w NoM [] [LxG] w := St.init_Ds (by simp only [List.forall_mem_cons]; exact ⟨hG, fun _ h => absurd h List.not_mem_nil⟩)
 refine SR <| AS rfl <| NSR <| CN <| Op1.move (v := .int .u64 _) rfl <| MI rfl <| CN <| Op1.call2 (v1 := .int .u64 _) (v2 := .int .i64 _) ent151 rfl rfl rfl <| Ret.det (R7lx_iFU u hu _ (hst.hD _ (.head _))) hst fun w hst => AS rfl <| NL <| run_ret1 Tryz.func97 rfl (TP (v := str _) rfl) ?_
 exact ⟨rfl, hst.pure⟩
end Go.SK
namespace Go.SK
open Go Go.Proofs
theorem ty251 : TyF Tryz.prog 251 (.int .i64) 1 8 [.int .i64 0] := TyF.of (by kernel_rfl) (by kernel_rfl)
theorem ty170 : TyF Tryz.prog 170 (.int .u64) 1 8 [.int .u64 0] := TyF.of (by kernel_rfl) (by kernel_rfl)
theorem ent187 : Enters Tryz.prog 187 := ⟨Tryz.f187, _, Tryz.func187, by kernel_rfl, rfl⟩
end Go.SK
namespace Go.SK
open Go Go.Proofs
open Go.RowKit
theorem R7lx_iPU16 (s : Tx) (hl : s.length ≤ 8) (w : World) : Ret Tryz.prog 144 #[str s, .int .i64 16, .int .i64 32] w (fun v w' => ((∃ n, s.length ≠ 0 ∧ hexsF s 0 = some n ∧ v = .tuple #[.int .u64 (n : Int), .nilIface]) ∨ ((s.length = 0 ∨ hexsF s 0 = none) ∧ v = .tuple #[.int .u64 0, .iface 251 (.int .i64 2)])) ∧ St w NoM [] [] w') := by
 refine Ret.enter (args := [str s, .int .i64 16, .int .i64 32]) Tryz.func144 rfl rfl rfl ?_
 have hst := St.init w
 refine SR <| CN <| Op1.assign (v := .int .u64 _) rfl <| CN <| Op1.assign (v := .nilIface) rfl <| NL <| SQ <| SR <| MS rfl <| CN <| Op1.eqlS rfl rfl <| NL <| run_cond_dec rfl (fun g1 => ?_) (fun g1 => ?_)
 · skip
   refine SR <| CN <| Op1.mkIface (v := .int .i64 _) ty251 rfl rfl <| CN <| Op1.assign (v := .int .u64 _) rfl <| CN <| Op1.assign (v := .iface _ _) rfl <| NL <| run_ret2 Tryz.func144 rfl (TP (v := .int .u64 _) rfl) (TP (v := .iface _ _) rfl) ?_
   subst g1
   exact ⟨.inr ⟨.inl rfl, rfl⟩, hst.pure⟩
 refine run_skip <| SR <| MI rfl <| CN <| Op1.eql rfl rfl <| AB rfl <| NSR <| MS rfl <| AS rfl <| NL <| SQ <| run_block <| SQ ?_
 refine RG <| MI rfl <| CN <| Op1.leq rfl rfl <| MB rfl <| RunL.splitD (d := 28) rfl (fun g2 => ?_) (fun g2 => ?_)
 · skip
   refine TK (t := 28) rfl (congrArg Value.bool (decide_eq_true g2)) <| Op1.move (v := .int .i64 _) rfl <| TK (t := 28) rfl (congrArg Value.bool (decide_eq_true g2)) <| Op1.leq rfl rfl <| CN <| Op1.pickT (u := .bool _) (congrArg Value.bool (decide_eq_true g2)) rfl <| AB rfl <| NL <| run_cond_dec rfl (fun g3 => ?_) (fun g3 => ?_)
   · skip
     refine run_skip <| run_inBlock <| SQ <| SR <| MI rfl <| CN <| Op1.eql rfl rfl <| NL <| run_cond_dec rfl (fun g4 => ?_) (fun g4 => ?_)
     · skip
       exfalso
       omega
     refine SR <| MI rfl <| CN <| Op1.lss rfl rfl <| MB rfl <| RunL.splitD (d := 80) rfl (fun g5 => ?_) (fun g5 => ?_)
     · skip
       exfalso
       omega
     refine TK (t := 80) rfl (congrArg Value.bool (decide_eq_false g5)) <| Op1.move (v := .int .i64 _) rfl <| TK (t := 80) rfl (congrArg Value.bool (decide_eq_false g5)) <| Op1.gtr rfl rfl <| CN <| Op1.pickF (u := .bool _) (congrArg Value.bool (decide_eq_false g5)) rfl <| NL <| Run.forget [(0, str _), (1, .int .i64 _), (2, .int .i64 _), (8, .bool _), (9, str _), (83, .bool _)] ⟨rfl, rfl, rfl, rfl, rfl, rfl, trivial⟩ fun f => run_cond_dec rfl (fun g6 => ?_) (fun g6 => ?_)
     · skip
       exfalso
       omega
     refine run_skip <| SR <| CN <| Op1.assign (v := .int .u64 _) rfl <| NL <| SQ <| SR <| MI rfl <| NL <| run_block <| SR <| CN <| Op1.eql rfl rfl <| AB rfl ?_
     refine NL <| run_cond_dec rfl (fun g7 => ?_) (fun g7 => ?_)
     · skip
       exfalso
       omega
     refine SR <| CN <| Op1.eql rfl rfl <| AB rfl <| NL <| run_cond_dec rfl (fun g8 => ?_) (fun g8 => ?_)
     · skip
       refine RG <| CN <| Op1.assign (v := .int .u64 _) rfl <| NL <| run_inBlock <| SR <| MI rfl ?_
       first | refine CN (Op1.convN ty3 ty170 rfl (wrap_u64 (by omega) (by omega)) ?_) | refine CN (Op1.conv ty3 ty170 rfl ?_)
       refine CN <| Op1.shlV (c := 4294967296) rfl rfl (by omega) (by decide) (by decide) <| CN <| Op1.subN rfl rfl rfl (wrap_u64 (by omega) (by omega)) <| CN <| Op1.assign (v := .int .u64 _) rfl <| NSR <| AB rfl <| NSR <| CN <| Op1.assign (v := .int .u64 _) rfl <| NL <| SQ <| SQ <| RG ?_
       refine MS rfl <| CN <| Op1.strBytes hst ty9 ty38 ty5 rfl fun w by_ cpb hst => CN <| Op1.lenSl (rest := []) ty38 rfl <| MI rfl <| NL <| run_block <| run_loop <| Run.indW [(1, .int .i64 _), (8, .bool _), (9, str _), (10, .int .u64 _), (11, .int .u64 _), (99, .slice _ _ _), (100, .int .i64 _)] ⟨rfl, rfl, rfl, rfl, rfl, rfl, rfl, trivial⟩ (fun (qq : Nat × Nat) => [(12, .bool false), (13, .int .u64 (qq.2 : Int)), (101, .int .i64 (qq.1 : Int))]) (fun (qq : Nat × Nat) => []) (fun (qq : Nat × Nat) => qq.1 ≤ s.length ∧ qq.2 < 16 ^ qq.1 ∧ hexsF s 0 = hexsF (s.drop qq.1) qq.2) (fun (qq : Nat × Nat) => s.length - qq.1) ((0, 0)) hst ⟨Nat.zero_le _, by decide, rfl⟩ ⟨rfl, rfl, rfl, trivial⟩ ?_
       intro ⟨i, n⟩ f w hst hJ ih9
       replace hst : St _ _ ([] ++ [_]) _ _ := hst
       replace hJ : i ≤ s.length ∧ n < 16 ^ i ∧ hexsF s 0 = hexsF (s.drop i) n := hJ
       refine Run.slots (sl := [(12, .bool false), (13, .int .u64 (n : Int)), (101, .int .i64 (i : Int))]) ⟨rfl, rfl, rfl, trivial⟩ ?_
       have hidx : (s.getD ((i : Int).toNat) 0).toNat = (s.getD i 0).toNat := rfl
       have hidl : bits .or .u8 ((s.getD ((i : Int).toNat) 0).toNat : Int) 32 = bits .or .u8 ((s.getD i 0).toNat : Int) 32 := rfl
       have hlow := low_nat _ (s.getD i 0).toNat_lt
       refine SR <| CN <| Op1.lss rfl rfl <| NL <| SQ <| run_cond_dec rfl (fun g10 => ?_) (fun g10 => ?_)
       · skip
         have hp16 := pow16_le (i := i) (by omega)
         refine run_skip <| SQ <| run_block <| SR <| CN <| Op1.indexRs ty38 ty5 (hst.hL _ (.head _)) rfl rfl (by omega) (by omega) <| CN <| Op1.load1 (v := .int .u8 _) ty5 rfl rfl (Res.rs2_cell (hst.hL _ (.head _)) (flat_cell0 (g := byC) (d := 0) byC_len rfl (by omega))) <| AC rfl <| NSR <| AC rfl <| NL <| SQ <| run_block ?_
         refine SR <| MC rfl <| CN <| Op1.eql rfl rfl <| MB rfl <| RunL.splitD (d := 109) rfl (fun g11 => ?_) (fun g11 => ?_)
         · skip
           refine TK (t := 109) rfl (congrArg Value.bool (decide_eq_true g11)) <| Op1.move (v := .bool _) rfl <| CN <| Op1.pickT (u := .bool _) (congrArg Value.bool (decide_eq_true g11)) rfl <| AB rfl <| NL <| run_cond_dec rfl (fun g12 => ?_) (fun g12 => ?_)
           · skip
             exfalso
             omega
           refine SR <| MC rfl <| CN <| Op1.leq rfl rfl <| MB rfl <| RunL.splitD (d := 115) rfl (fun g13 => ?_) (fun g13 => ?_)
           · skip
             refine TK (t := 115) rfl (congrArg Value.bool (decide_eq_true g13)) <| Op1.move (v := .int .u8 _) rfl <| TK (t := 115) rfl (congrArg Value.bool (decide_eq_true g13)) <| Op1.leq rfl rfl <| CN <| Op1.pickT (u := .bool _) (congrArg Value.bool (decide_eq_true g13)) rfl <| AB rfl <| NL <| run_cond_dec rfl (fun g14 => ?_) (fun g14 => ?_)
             · skip
               refine RG <| MC rfl <| CN <| Op1.subN rfl rfl rfl (wrap_u8 (by omega) (by omega)) <| AC rfl <| NL <| run_inBlock <| Run.forget [(1, .int .i64 _), (8, .bool _), (9, str _), (10, .int .u64 _), (11, .int .u64 _), (12, .bool _), (13, .int .u64 _), (16, .int .u8 _), (99, .slice _ _ _), (100, .int .i64 _), (101, .int .i64 _)] ⟨rfl, rfl, rfl, rfl, rfl, rfl, rfl, rfl, rfl, rfl, rfl, trivial⟩ fun f => SQ <| SR <| MC rfl <| MI rfl ?_
               first | refine CN (Op1.convN ty3 ty5 rfl (wrap_u8 (by omega) (by omega)) ?_) | refine CN (Op1.conv ty3 ty5 rfl ?_)
               refine CN <| Op1.geq rfl rfl <| NL <| run_cond_dec rfl (fun g15 => ?_) (fun g15 => ?_)
               · skip
                 exfalso
                 omega
               have hyd : hexB (s.getD i 0) = true := decide_eq_true (by omega)
               have hwd : (worF (s.getD i 0) : Int) = ((s.getD i 0).toNat : Int) - 48 := by have hq := of_decide_eq_true hyd; unfold worF; split <;> (try split) <;> omega
               refine run_skip <| SQ <| SR <| CN <| Op1.move (v := .int .u64 _) rfl <| CN <| Op1.move (v := .int .u64 _) rfl <| CN <| Op1.geq rfl rfl <| NL <| run_cond_dec rfl (fun g16 => ?_) (fun g16 => ?_)
               · skip
                 exfalso
                 omega
               refine run_skip <| SR <| CN <| Op1.move (v := .int .u64 _) rfl <| MI rfl ?_
               first | refine CN (Op1.convN ty3 ty149 rfl (wrap_u64 (by omega) (by omega)) ?_) | refine CN (Op1.conv ty3 ty149 rfl ?_)
               refine CN <| Op1.mulN rfl rfl rfl (wrap_u64 (by omega) (by omega)) <| CN <| Op1.assign (v := .int .u64 _) rfl <| NSR <| CN <| Op1.move (v := .int .u64 _) rfl <| MC rfl ?_
               first | refine CN (Op1.convN ty5 ty149 rfl (wrap_u64 (by omega) (by omega)) ?_) | refine CN (Op1.conv ty5 ty149 rfl ?_)
               refine CN <| Op1.addN rfl rfl rfl (wrap_u64 (by omega) (by omega)) <| CN <| Op1.assign (v := .int .u64 _) rfl <| NL <| SQ <| SR <| CN <| Op1.move (v := .int .u64 _) rfl <| CN <| Op1.move (v := .int .u64 _) rfl <| CN <| Op1.lss rfl rfl <| MB rfl <| RunL.splitD (d := 155) rfl (fun g17 => ?_) (fun g17 => ?_)
               · skip
                 exfalso
                 omega
               refine TK (t := 155) rfl (congrArg Value.bool (decide_eq_false g17)) <| Op1.move (v := .int .u64 _) rfl <| TK (t := 155) rfl (congrArg Value.bool (decide_eq_false g17)) <| Op1.move (v := .int .u64 _) rfl <| TK (t := 155) rfl (congrArg Value.bool (decide_eq_false g17)) <| Op1.gtr rfl rfl <| CN <| Op1.pickF (u := .bool _) (congrArg Value.bool (decide_eq_false g17)) rfl <| NL <| Run.forget [(1, .int .i64 _), (8, .bool _), (9, str _), (10, .int .u64 _), (11, .int .u64 _), (12, .bool _), (17, .int .u64 _), (99, .slice _ _ _), (100, .int .i64 _), (101, .int .i64 _), (159, .bool _)] ⟨rfl, rfl, rfl, rfl, rfl, rfl, rfl, rfl, rfl, rfl, rfl, trivial⟩ fun f => run_cond_dec rfl (fun g18 => ?_) (fun g18 => ?_)
               · skip
                 exfalso
                 omega
               refine run_skip <| RG <| CN <| Op1.move (v := .int .u64 _) rfl <| CN <| Op1.assign (v := .int .u64 _) rfl <| NL <| run_inBlock <| RG <| CN <| Op1.addN rfl rfl rfl (wrap_i64 (by omega) (by omega)) <| MI rfl <| NL <| run_inLoop ?_
               exact ih9 ((i + 1, 16 * n + worF (s.getD i 0))) _ w (by (try dsimp only); omega) hst (⟨by (try dsimp only); omega, by (try dsimp only); exact pow16_step hJ.2.1 (hex_bd hyd).2, by (try dsimp only); rw [hJ.2.2, hexs_step (by omega) hyd]⟩) ⟨rfl, rfl, rfl, rfl, rfl, rfl, rfl, trivial⟩ ⟨rfl, (congrArg (Value.int .u64) (by (try dsimp only); omega)), (congrArg (Value.int .i64) (by (try dsimp only); omega)), trivial⟩
             refine SR <| MC rfl <| CN <| Op1.call1 (v1 := .int .u8 _) ent187 rfl rfl <| Ret.det (lx_lower _ _) hst fun w hst => CN <| Op1.leq rfl rfl <| MB rfl <| RunL.splitD (d := 125) rfl (fun g19 => ?_) (fun g19 => ?_)
             · skip
               refine TK (t := 125) rfl (congrArg Value.bool (decide_eq_true g19)) <| Op1.move (v := .int .u8 _) rfl <| TK (t := 125) rfl (congrArg Value.bool (decide_eq_true g19)) (Op1.call1 (v1 := .int .u8 _) ent187 rfl rfl ((lx_lower _ _).mono fun v w hp => ?_))
               obtain ⟨rfl, hp⟩ := hp
               replace hst := hst.keepc hp
               clear hp
               refine TK (t := 125) rfl (congrArg Value.bool (decide_eq_true g19)) <| Op1.leq rfl rfl <| CN <| Op1.pickT (u := .bool _) (congrArg Value.bool (decide_eq_true g19)) rfl <| AB rfl <| NL <| Run.forget [(1, .int .i64 _), (8, .bool _), (9, str _), (10, .int .u64 _), (11, .int .u64 _), (12, .bool _), (13, .int .u64 _), (15, .int .u8 _), (99, .slice _ _ _), (100, .int .i64 _), (101, .int .i64 _), (121, .bool _)] ⟨rfl, rfl, rfl, rfl, rfl, rfl, rfl, rfl, rfl, rfl, rfl, rfl, trivial⟩ fun f => run_cond_dec rfl (fun g20 => ?_) (fun g20 => ?_)
               · skip
                 refine RG <| MC rfl <| CN <| Op1.call1 (v1 := .int .u8 _) ent187 rfl rfl <| Ret.det (lx_lower _ _) hst fun w hst => CN <| Op1.subN rfl rfl rfl (wrap_u8 (by omega) (by omega)) <| CN <| Op1.addN rfl rfl rfl (wrap_u8 (by omega) (by omega)) <| AC rfl <| NL <| run_inBlock <| SQ <| SR <| MC rfl <| MI rfl ?_
                 first | refine CN (Op1.convN ty3 ty5 rfl (wrap_u8 (by omega) (by omega)) ?_) | refine CN (Op1.conv ty3 ty5 rfl ?_)
                 refine CN <| Op1.geq rfl rfl <| NL <| run_cond_dec rfl (fun g21 => ?_) (fun g21 => ?_)
                 · skip
                   refine SR <| CN <| Op1.mkIface (v := .int .i64 _) ty251 rfl rfl <| CN <| Op1.assign (v := .int .u64 _) rfl <| CN <| Op1.assign (v := .iface _ _) rfl <| NL <| run_ret2 Tryz.func144 rfl (TP (v := .int .u64 _) rfl) (TP (v := .iface _ _) rfl) ?_
                   have hno : ¬ hexB (s.getD i 0) = true := fun hn => by have hn2 := of_decide_eq_true hn; omega
                   exact ⟨.inr ⟨.inr (hJ.2.2.trans (hexs_stop (by omega) hno)), rfl⟩, hst.pure⟩
                 have hyd : hexB (s.getD i 0) = true := Classical.byContradiction fun hn => by have hn2 := of_decide_eq_false (Bool.not_eq_true _ ▸ hn); omega
                 have hwd : (worF (s.getD i 0) : Int) = bits .or .u8 ((s.getD i 0).toNat : Int) 32 - 87 := by have hq := of_decide_eq_true hyd; unfold worF; split <;> (try split) <;> omega
                 refine run_skip <| SQ <| SR <| CN <| Op1.move (v := .int .u64 _) rfl <| CN <| Op1.move (v := .int .u64 _) rfl <| CN <| Op1.geq rfl rfl <| NL <| run_cond_dec rfl (fun g22 => ?_) (fun g22 => ?_)
                 · skip
                   exfalso
                   omega
                 refine run_skip <| SR <| CN <| Op1.move (v := .int .u64 _) rfl <| MI rfl ?_
                 first | refine CN (Op1.convN ty3 ty149 rfl (wrap_u64 (by omega) (by omega)) ?_) | refine CN (Op1.conv ty3 ty149 rfl ?_)
                 refine CN <| Op1.mulN rfl rfl rfl (wrap_u64 (by omega) (by omega)) <| CN <| Op1.assign (v := .int .u64 _) rfl <| NSR <| CN <| Op1.move (v := .int .u64 _) rfl <| MC rfl ?_
                 first | refine CN (Op1.convN ty5 ty149 rfl (wrap_u64 (by omega) (by omega)) ?_) | refine CN (Op1.conv ty5 ty149 rfl ?_)
                 refine CN <| Op1.addN rfl rfl rfl (wrap_u64 (by omega) (by omega)) <| CN <| Op1.assign (v := .int .u64 _) rfl <| NL <| Run.forget [(1, .int .i64 _), (8, .bool _), (9, str _), (10, .int .u64 _), (11, .int .u64 _), (12, .bool _), (13, .int .u64 _), (17, .int .u64 _), (99, .slice _ _ _), (100, .int .i64 _), (101, .int .i64 _)] ⟨rfl, rfl, rfl, rfl, rfl, rfl, rfl, rfl, rfl, rfl, rfl, trivial⟩ fun f => SQ <| SR <| CN <| Op1.move (v := .int .u64 _) rfl <| CN <| Op1.move (v := .int .u64 _) rfl <| CN <| Op1.lss rfl rfl <| MB rfl <| RunL.splitD (d := 155) rfl (fun g23 => ?_) (fun g23 => ?_)
                 · skip
                   exfalso
                   omega
                 refine TK (t := 155) rfl (congrArg Value.bool (decide_eq_false g23)) <| Op1.move (v := .int .u64 _) rfl <| TK (t := 155) rfl (congrArg Value.bool (decide_eq_false g23)) <| Op1.move (v := .int .u64 _) rfl <| TK (t := 155) rfl (congrArg Value.bool (decide_eq_false g23)) <| Op1.gtr rfl rfl <| CN <| Op1.pickF (u := .bool _) (congrArg Value.bool (decide_eq_false g23)) rfl <| NL <| run_cond_dec rfl (fun g24 => ?_) (fun g24 => ?_)
                 · skip
                   exfalso
                   omega
                 refine run_skip <| RG <| CN <| Op1.move (v := .int .u64 _) rfl <| CN <| Op1.assign (v := .int .u64 _) rfl <| NL <| run_inBlock <| RG <| CN <| Op1.addN rfl rfl rfl (wrap_i64 (by omega) (by omega)) <| MI rfl <| NL <| run_inLoop ?_
                 exact ih9 ((i + 1, 16 * n + worF (s.getD i 0))) _ w (by (try dsimp only); omega) hst (⟨by (try dsimp only); omega, by (try dsimp only); exact pow16_step hJ.2.1 (hex_bd hyd).2, by (try dsimp only); rw [hJ.2.2, hexs_step (by omega) hyd]⟩) ⟨rfl, rfl, rfl, rfl, rfl, rfl, rfl, trivial⟩ ⟨rfl, (congrArg (Value.int .u64) (by (try dsimp only); omega)), (congrArg (Value.int .i64) (by (try dsimp only); omega)), trivial⟩
               refine SR <| CN <| Op1.mkIface (v := .int .i64 _) ty251 rfl rfl <| CN <| Op1.assign (v := .int .u64 _) rfl <| CN <| Op1.assign (v := .iface _ _) rfl <| NL <| run_ret2 Tryz.func144 rfl (TP (v := .int .u64 _) rfl) (TP (v := .iface _ _) rfl) ?_
               have hno : ¬ hexB (s.getD i 0) = true := fun hn => by have hn2 := of_decide_eq_true hn; omega
               exact ⟨.inr ⟨.inr (hJ.2.2.trans (hexs_stop (by omega) hno)), rfl⟩, hst.pure⟩
             refine OM (t := 125) rfl (congrArg Value.bool (decide_eq_false g19)) rfl <| OM (t := 125) rfl (congrArg Value.bool (decide_eq_false g19)) rfl <| OM (t := 125) rfl (congrArg Value.bool (decide_eq_false g19)) rfl <| CN <| Op1.pickF (u := .bool _) (congrArg Value.bool (decide_eq_false g19)) rfl <| AB rfl <| NL <| Run.forget [(1, .int .i64 _), (8, .bool _), (9, str _), (10, .int .u64 _), (11, .int .u64 _), (12, .bool _), (13, .int .u64 _), (15, .int .u8 _), (99, .slice _ _ _), (100, .int .i64 _), (101, .int .i64 _), (121, .bool _)] ⟨rfl, rfl, rfl, rfl, rfl, rfl, rfl, rfl, rfl, rfl, rfl, rfl, trivial⟩ fun f => run_cond_false (congrArg Value.bool (rfl : false = _)) <| SR <| CN <| Op1.mkIface (v := .int .i64 _) ty251 rfl rfl <| CN <| Op1.assign (v := .int .u64 _) rfl <| CN <| Op1.assign (v := .iface _ _) rfl <| NL <| run_ret2 Tryz.func144 rfl (TP (v := .int .u64 _) rfl) (TP (v := .iface _ _) rfl) ?_
             have hno : ¬ hexB (s.getD i 0) = true := fun hn => by have hn2 := of_decide_eq_true hn; omega
             exact ⟨.inr ⟨.inr (hJ.2.2.trans (hexs_stop (by omega) hno)), rfl⟩, hst.pure⟩
           refine OM (t := 115) rfl (congrArg Value.bool (decide_eq_false g13)) rfl <| OM (t := 115) rfl (congrArg Value.bool (decide_eq_false g13)) rfl <| CN <| Op1.pickF (u := .bool _) (congrArg Value.bool (decide_eq_false g13)) rfl <| AB rfl <| NL <| run_cond_false (congrArg Value.bool (rfl : false = _)) <| SR <| MC rfl <| CN <| Op1.call1 (v1 := .int .u8 _) ent187 rfl rfl <| Ret.det (lx_lower _ _) hst fun w hst => CN <| Op1.leq rfl rfl <| MB rfl <| RunL.splitD (d := 125) rfl (fun g25 => ?_) (fun g25 => ?_)
           · skip
             refine TK (t := 125) rfl (congrArg Value.bool (decide_eq_true g25)) <| Op1.move (v := .int .u8 _) rfl <| TK (t := 125) rfl (congrArg Value.bool (decide_eq_true g25)) (Op1.call1 (v1 := .int .u8 _) ent187 rfl rfl ((lx_lower _ _).mono fun v w hp => ?_))
             obtain ⟨rfl, hp⟩ := hp
             replace hst := hst.keepc hp
             clear hp
             refine TK (t := 125) rfl (congrArg Value.bool (decide_eq_true g25)) <| Op1.leq rfl rfl <| CN <| Op1.pickT (u := .bool _) (congrArg Value.bool (decide_eq_true g25)) rfl <| AB rfl <| NL <| Run.forget [(1, .int .i64 _), (8, .bool _), (9, str _), (10, .int .u64 _), (11, .int .u64 _), (12, .bool _), (13, .int .u64 _), (15, .int .u8 _), (99, .slice _ _ _), (100, .int .i64 _), (101, .int .i64 _), (121, .bool _)] ⟨rfl, rfl, rfl, rfl, rfl, rfl, rfl, rfl, rfl, rfl, rfl, rfl, trivial⟩ fun f => run_cond_dec rfl (fun g26 => ?_) (fun g26 => ?_)
             · skip
               refine RG <| MC rfl <| CN <| Op1.call1 (v1 := .int .u8 _) ent187 rfl rfl <| Ret.det (lx_lower _ _) hst fun w hst => CN <| Op1.subN rfl rfl rfl (wrap_u8 (by omega) (by omega)) <| CN <| Op1.addN rfl rfl rfl (wrap_u8 (by omega) (by omega)) <| AC rfl <| NL <| run_inBlock <| SQ <| SR <| MC rfl <| MI rfl ?_
               first | refine CN (Op1.convN ty3 ty5 rfl (wrap_u8 (by omega) (by omega)) ?_) | refine CN (Op1.conv ty3 ty5 rfl ?_)
               refine CN <| Op1.geq rfl rfl <| NL <| run_cond_dec rfl (fun g27 => ?_) (fun g27 => ?_)
               · skip
                 refine SR <| CN <| Op1.mkIface (v := .int .i64 _) ty251 rfl rfl <| CN <| Op1.assign (v := .int .u64 _) rfl <| CN <| Op1.assign (v := .iface _ _) rfl <| NL <| run_ret2 Tryz.func144 rfl (TP (v := .int .u64 _) rfl) (TP (v := .iface _ _) rfl) ?_
                 have hno : ¬ hexB (s.getD i 0) = true := fun hn => by have hn2 := of_decide_eq_true hn; omega
                 exact ⟨.inr ⟨.inr (hJ.2.2.trans (hexs_stop (by omega) hno)), rfl⟩, hst.pure⟩
               have hyd : hexB (s.getD i 0) = true := Classical.byContradiction fun hn => by have hn2 := of_decide_eq_false (Bool.not_eq_true _ ▸ hn); omega
               have hwd : (worF (s.getD i 0) : Int) = bits .or .u8 ((s.getD i 0).toNat : Int) 32 - 87 := by have hq := of_decide_eq_true hyd; unfold worF; split <;> (try split) <;> omega
               refine run_skip <| SQ <| SR <| CN <| Op1.move (v := .int .u64 _) rfl <| CN <| Op1.move (v := .int .u64 _) rfl <| CN <| Op1.geq rfl rfl <| NL <| run_cond_dec rfl (fun g28 => ?_) (fun g28 => ?_)
               · skip
                 exfalso
                 omega
               refine run_skip <| SR <| CN <| Op1.move (v := .int .u64 _) rfl <| MI rfl ?_
               first | refine CN (Op1.convN ty3 ty149 rfl (wrap_u64 (by omega) (by omega)) ?_) | refine CN (Op1.conv ty3 ty149 rfl ?_)
               refine CN <| Op1.mulN rfl rfl rfl (wrap_u64 (by omega) (by omega)) <| CN <| Op1.assign (v := .int .u64 _) rfl <| NSR <| CN <| Op1.move (v := .int .u64 _) rfl <| MC rfl ?_
               first | refine CN (Op1.convN ty5 ty149 rfl (wrap_u64 (by omega) (by omega)) ?_) | refine CN (Op1.conv ty5 ty149 rfl ?_)
               refine CN <| Op1.addN rfl rfl rfl (wrap_u64 (by omega) (by omega)) <| CN <| Op1.assign (v := .int .u64 _) rfl <| NL <| Run.forget [(1, .int .i64 _), (8, .bool _), (9, str _), (10, .int .u64 _), (11, .int .u64 _), (12, .bool _), (13, .int .u64 _), (17, .int .u64 _), (99, .slice _ _ _), (100, .int .i64 _), (101, .int .i64 _)] ⟨rfl, rfl, rfl, rfl, rfl, rfl, rfl, rfl, rfl, rfl, rfl, trivial⟩ fun f => SQ <| SR <| CN <| Op1.move (v := .int .u64 _) rfl <| CN <| Op1.move (v := .int .u64 _) rfl <| CN <| Op1.lss rfl rfl <| MB rfl <| RunL.splitD (d := 155) rfl (fun g29 => ?_) (fun g29 => ?_)
               · skip
                 exfalso
                 omega
               refine TK (t := 155) rfl (congrArg Value.bool (decide_eq_false g29)) <| Op1.move (v := .int .u64 _) rfl <| TK (t := 155) rfl (congrArg Value.bool (decide_eq_false g29)) <| Op1.move (v := .int .u64 _) rfl <| TK (t := 155) rfl (congrArg Value.bool (decide_eq_false g29)) <| Op1.gtr rfl rfl <| CN <| Op1.pickF (u := .bool _) (congrArg Value.bool (decide_eq_false g29)) rfl <| NL <| run_cond_dec rfl (fun g30 => ?_) (fun g30 => ?_)
               · skip
                 exfalso
                 omega
               refine run_skip <| RG <| CN <| Op1.move (v := .int .u64 _) rfl <| CN <| Op1.assign (v := .int .u64 _) rfl <| NL <| run_inBlock <| RG <| CN <| Op1.addN rfl rfl rfl (wrap_i64 (by omega) (by omega)) <| MI rfl <| NL <| run_inLoop ?_
               exact ih9 ((i + 1, 16 * n + worF (s.getD i 0))) _ w (by (try dsimp only); omega) hst (⟨by (try dsimp only); omega, by (try dsimp only); exact pow16_step hJ.2.1 (hex_bd hyd).2, by (try dsimp only); rw [hJ.2.2, hexs_step (by omega) hyd]⟩) ⟨rfl, rfl, rfl, rfl, rfl, rfl, rfl, trivial⟩ ⟨rfl, (congrArg (Value.int .u64) (by (try dsimp only); omega)), (congrArg (Value.int .i64) (by (try dsimp only); omega)), trivial⟩
             refine SR <| CN <| Op1.mkIface (v := .int .i64 _) ty251 rfl rfl <| CN <| Op1.assign (v := .int .u64 _) rfl <| CN <| Op1.assign (v := .iface _ _) rfl <| NL <| run_ret2 Tryz.func144 rfl (TP (v := .int .u64 _) rfl) (TP (v := .iface _ _) rfl) ?_
             have hno : ¬ hexB (s.getD i 0) = true := fun hn => by have hn2 := of_decide_eq_true hn; omega
             exact ⟨.inr ⟨.inr (hJ.2.2.trans (hexs_stop (by omega) hno)), rfl⟩, hst.pure⟩
           refine OM (t := 125) rfl (congrArg Value.bool (decide_eq_false g25)) rfl <| OM (t := 125) rfl (congrArg Value.bool (decide_eq_false g25)) rfl <| OM (t := 125) rfl (congrArg Value.bool (decide_eq_false g25)) rfl <| CN <| Op1.pickF (u := .bool _) (congrArg Value.bool (decide_eq_false g25)) rfl <| AB rfl <| NL <| Run.forget [(1, .int .i64 _), (8, .bool _), (9, str _), (10, .int .u64 _), (11, .int .u64 _), (12, .bool _), (13, .int .u64 _), (15, .int .u8 _), (99, .slice _ _ _), (100, .int .i64 _), (101, .int .i64 _), (121, .bool _)] ⟨rfl, rfl, rfl, rfl, rfl, rfl, rfl, rfl, rfl, rfl, rfl, rfl, trivial⟩ fun f => run_cond_false (congrArg Value.bool (rfl : false = _)) <| SR <| CN <| Op1.mkIface (v := .int .i64 _) ty251 rfl rfl <| CN <| Op1.assign (v := .int .u64 _) rfl <| CN <| Op1.assign (v := .iface _ _) rfl <| NL <| run_ret2 Tryz.func144 rfl (TP (v := .int .u64 _) rfl) (TP (v := .iface _ _) rfl) ?_
           have hno : ¬ hexB (s.getD i 0) = true := fun hn => by have hn2 := of_decide_eq_true hn; omega
           exact ⟨.inr ⟨.inr (hJ.2.2.trans (hexs_stop (by omega) hno)), rfl⟩, hst.pure⟩
         refine OM (t := 109) rfl (congrArg Value.bool (decide_eq_false g11)) rfl <| CN <| Op1.pickF (u := .bool _) (congrArg Value.bool (decide_eq_false g11)) rfl <| AB rfl <| NL <| run_cond_false (congrArg Value.bool (rfl : false = _)) <| SR <| MC rfl <| CN <| Op1.leq rfl rfl <| MB rfl <| RunL.splitD (d := 115) rfl (fun g31 => ?_) (fun g31 => ?_)
         · skip
           refine TK (t := 115) rfl (congrArg Value.bool (decide_eq_true g31)) <| Op1.move (v := .int .u8 _) rfl <| TK (t := 115) rfl (congrArg Value.bool (decide_eq_true g31)) <| Op1.leq rfl rfl <| CN <| Op1.pickT (u := .bool _) (congrArg Value.bool (decide_eq_true g31)) rfl <| AB rfl <| NL <| run_cond_dec rfl (fun g32 => ?_) (fun g32 => ?_)
           · skip
             refine RG <| MC rfl <| CN <| Op1.subN rfl rfl rfl (wrap_u8 (by omega) (by omega)) <| AC rfl <| NL <| run_inBlock <| Run.forget [(1, .int .i64 _), (8, .bool _), (9, str _), (10, .int .u64 _), (11, .int .u64 _), (12, .bool _), (13, .int .u64 _), (16, .int .u8 _), (99, .slice _ _ _), (100, .int .i64 _), (101, .int .i64 _)] ⟨rfl, rfl, rfl, rfl, rfl, rfl, rfl, rfl, rfl, rfl, rfl, trivial⟩ fun f => SQ <| SR <| MC rfl <| MI rfl ?_
             first | refine CN (Op1.convN ty3 ty5 rfl (wrap_u8 (by omega) (by omega)) ?_) | refine CN (Op1.conv ty3 ty5 rfl ?_)
             refine CN <| Op1.geq rfl rfl <| NL <| run_cond_dec rfl (fun g33 => ?_) (fun g33 => ?_)
             · skip
               exfalso
               omega
             have hyd : hexB (s.getD i 0) = true := decide_eq_true (by omega)
             have hwd : (worF (s.getD i 0) : Int) = ((s.getD i 0).toNat : Int) - 48 := by have hq := of_decide_eq_true hyd; unfold worF; split <;> (try split) <;> omega
             refine run_skip <| SQ <| SR <| CN <| Op1.move (v := .int .u64 _) rfl <| CN <| Op1.move (v := .int .u64 _) rfl <| CN <| Op1.geq rfl rfl <| NL <| run_cond_dec rfl (fun g34 => ?_) (fun g34 => ?_)
             · skip
               exfalso
               omega
             refine run_skip <| SR <| CN <| Op1.move (v := .int .u64 _) rfl <| MI rfl ?_
             first | refine CN (Op1.convN ty3 ty149 rfl (wrap_u64 (by omega) (by omega)) ?_) | refine CN (Op1.conv ty3 ty149 rfl ?_)
             refine CN <| Op1.mulN rfl rfl rfl (wrap_u64 (by omega) (by omega)) <| CN <| Op1.assign (v := .int .u64 _) rfl <| NSR <| CN <| Op1.move (v := .int .u64 _) rfl <| MC rfl ?_
             first | refine CN (Op1.convN ty5 ty149 rfl (wrap_u64 (by omega) (by omega)) ?_) | refine CN (Op1.conv ty5 ty149 rfl ?_)
             refine CN <| Op1.addN rfl rfl rfl (wrap_u64 (by omega) (by omega)) <| CN <| Op1.assign (v := .int .u64 _) rfl <| NL <| SQ <| SR <| CN <| Op1.move (v := .int .u64 _) rfl <| CN <| Op1.move (v := .int .u64 _) rfl <| CN <| Op1.lss rfl rfl <| MB rfl <| RunL.splitD (d := 155) rfl (fun g35 => ?_) (fun g35 => ?_)
             · skip
               exfalso
               omega
             refine TK (t := 155) rfl (congrArg Value.bool (decide_eq_false g35)) <| Op1.move (v := .int .u64 _) rfl <| TK (t := 155) rfl (congrArg Value.bool (decide_eq_false g35)) <| Op1.move (v := .int .u64 _) rfl <| TK (t := 155) rfl (congrArg Value.bool (decide_eq_false g35)) <| Op1.gtr rfl rfl <| CN <| Op1.pickF (u := .bool _) (congrArg Value.bool (decide_eq_false g35)) rfl <| NL <| Run.forget [(1, .int .i64 _), (8, .bool _), (9, str _), (10, .int .u64 _), (11, .int .u64 _), (12, .bool _), (17, .int .u64 _), (99, .slice _ _ _), (100, .int .i64 _), (101, .int .i64 _), (159, .bool _)] ⟨rfl, rfl, rfl, rfl, rfl, rfl, rfl, rfl, rfl, rfl, rfl, trivial⟩ fun f => run_cond_dec rfl (fun g36 => ?_) (fun g36 => ?_)
             · skip
               exfalso
               omega
             refine run_skip <| RG <| CN <| Op1.move (v := .int .u64 _) rfl <| CN <| Op1.assign (v := .int .u64 _) rfl <| NL <| run_inBlock <| RG <| CN <| Op1.addN rfl rfl rfl (wrap_i64 (by omega) (by omega)) <| MI rfl <| NL <| run_inLoop ?_
             exact ih9 ((i + 1, 16 * n + worF (s.getD i 0))) _ w (by (try dsimp only); omega) hst (⟨by (try dsimp only); omega, by (try dsimp only); exact pow16_step hJ.2.1 (hex_bd hyd).2, by (try dsimp only); rw [hJ.2.2, hexs_step (by omega) hyd]⟩) ⟨rfl, rfl, rfl, rfl, rfl, rfl, rfl, trivial⟩ ⟨rfl, (congrArg (Value.int .u64) (by (try dsimp only); omega)), (congrArg (Value.int .i64) (by (try dsimp only); omega)), trivial⟩
           refine SR <| MC rfl <| CN <| Op1.call1 (v1 := .int .u8 _) ent187 rfl rfl <| Ret.det (lx_lower _ _) hst fun w hst => CN <| Op1.leq rfl rfl <| MB rfl <| RunL.splitD (d := 125) rfl (fun g37 => ?_) (fun g37 => ?_)
           · skip
             refine TK (t := 125) rfl (congrArg Value.bool (decide_eq_true g37)) <| Op1.move (v := .int .u8 _) rfl <| TK (t := 125) rfl (congrArg Value.bool (decide_eq_true g37)) (Op1.call1 (v1 := .int .u8 _) ent187 rfl rfl ((lx_lower _ _).mono fun v w hp => ?_))
             obtain ⟨rfl, hp⟩ := hp
             replace hst := hst.keepc hp
             clear hp
             refine TK (t := 125) rfl (congrArg Value.bool (decide_eq_true g37)) <| Op1.leq rfl rfl <| CN <| Op1.pickT (u := .bool _) (congrArg Value.bool (decide_eq_true g37)) rfl <| AB rfl <| NL <| Run.forget [(1, .int .i64 _), (8, .bool _), (9, str _), (10, .int .u64 _), (11, .int .u64 _), (12, .bool _), (13, .int .u64 _), (15, .int .u8 _), (99, .slice _ _ _), (100, .int .i64 _), (101, .int .i64 _), (121, .bool _)] ⟨rfl, rfl, rfl, rfl, rfl, rfl, rfl, rfl, rfl, rfl, rfl, rfl, trivial⟩ fun f => run_cond_dec rfl (fun g38 => ?_) (fun g38 => ?_)
             · skip
               refine RG <| MC rfl <| CN <| Op1.call1 (v1 := .int .u8 _) ent187 rfl rfl <| Ret.det (lx_lower _ _) hst fun w hst => CN <| Op1.subN rfl rfl rfl (wrap_u8 (by omega) (by omega)) <| CN <| Op1.addN rfl rfl rfl (wrap_u8 (by omega) (by omega)) <| AC rfl <| NL <| run_inBlock <| SQ <| SR <| MC rfl <| MI rfl ?_
               first | refine CN (Op1.convN ty3 ty5 rfl (wrap_u8 (by omega) (by omega)) ?_) | refine CN (Op1.conv ty3 ty5 rfl ?_)
               refine CN <| Op1.geq rfl rfl <| NL <| run_cond_dec rfl (fun g39 => ?_) (fun g39 => ?_)
               · skip
                 refine SR <| CN <| Op1.mkIface (v := .int .i64 _) ty251 rfl rfl <| CN <| Op1.assign (v := .int .u64 _) rfl <| CN <| Op1.assign (v := .iface _ _) rfl <| NL <| run_ret2 Tryz.func144 rfl (TP (v := .int .u64 _) rfl) (TP (v := .iface _ _) rfl) ?_
                 have hno : ¬ hexB (s.getD i 0) = true := fun hn => by have hn2 := of_decide_eq_true hn; omega
                 exact ⟨.inr ⟨.inr (hJ.2.2.trans (hexs_stop (by omega) hno)), rfl⟩, hst.pure⟩
               have hyd : hexB (s.getD i 0) = true := Classical.byContradiction fun hn => by have hn2 := of_decide_eq_false (Bool.not_eq_true _ ▸ hn); omega
               have hwd : (worF (s.getD i 0) : Int) = bits .or .u8 ((s.getD i 0).toNat : Int) 32 - 87 := by have hq := of_decide_eq_true hyd; unfold worF; split <;> (try split) <;> omega
               refine run_skip <| SQ <| SR <| CN <| Op1.move (v := .int .u64 _) rfl <| CN <| Op1.move (v := .int .u64 _) rfl <| CN <| Op1.geq rfl rfl <| NL <| run_cond_dec rfl (fun g40 => ?_) (fun g40 => ?_)
               · skip
                 exfalso
                 omega
               refine run_skip <| SR <| CN <| Op1.move (v := .int .u64 _) rfl <| MI rfl ?_
               first | refine CN (Op1.convN ty3 ty149 rfl (wrap_u64 (by omega) (by omega)) ?_) | refine CN (Op1.conv ty3 ty149 rfl ?_)
               refine CN <| Op1.mulN rfl rfl rfl (wrap_u64 (by omega) (by omega)) <| CN <| Op1.assign (v := .int .u64 _) rfl <| NSR <| CN <| Op1.move (v := .int .u64 _) rfl <| MC rfl ?_
               first | refine CN (Op1.convN ty5 ty149 rfl (wrap_u64 (by omega) (by omega)) ?_) | refine CN (Op1.conv ty5 ty149 rfl ?_)
               refine CN <| Op1.addN rfl rfl rfl (wrap_u64 (by omega) (by omega)) <| CN <| Op1.assign (v := .int .u64 _) rfl <| NL <| Run.forget [(1, .int .i64 _), (8, .bool _), (9, str _), (10, .int .u64 _), (11, .int .u64 _), (12, .bool _), (13, .int .u64 _), (17, .int .u64 _), (99, .slice _ _ _), (100, .int .i64 _), (101, .int .i64 _)] ⟨rfl, rfl, rfl, rfl, rfl, rfl, rfl, rfl, rfl, rfl, rfl, trivial⟩ fun f => SQ <| SR <| CN <| Op1.move (v := .int .u64 _) rfl <| CN <| Op1.move (v := .int .u64 _) rfl <| CN <| Op1.lss rfl rfl <| MB rfl <| RunL.splitD (d := 155) rfl (fun g41 => ?_) (fun g41 => ?_)
               · skip
                 exfalso
                 omega
               refine TK (t := 155) rfl (congrArg Value.bool (decide_eq_false g41)) <| Op1.move (v := .int .u64 _) rfl <| TK (t := 155) rfl (congrArg Value.bool (decide_eq_false g41)) <| Op1.move (v := .int .u64 _) rfl <| TK (t := 155) rfl (congrArg Value.bool (decide_eq_false g41)) <| Op1.gtr rfl rfl <| CN <| Op1.pickF (u := .bool _) (congrArg Value.bool (decide_eq_false g41)) rfl <| NL <| run_cond_dec rfl (fun g42 => ?_) (fun g42 => ?_)
               · skip
                 exfalso
                 omega
               refine run_skip <| RG <| CN <| Op1.move (v := .int .u64 _) rfl <| CN <| Op1.assign (v := .int .u64 _) rfl <| NL <| run_inBlock <| RG <| CN <| Op1.addN rfl rfl rfl (wrap_i64 (by omega) (by omega)) <| MI rfl <| NL <| run_inLoop ?_
               exact ih9 ((i + 1, 16 * n + worF (s.getD i 0))) _ w (by (try dsimp only); omega) hst (⟨by (try dsimp only); omega, by (try dsimp only); exact pow16_step hJ.2.1 (hex_bd hyd).2, by (try dsimp only); rw [hJ.2.2, hexs_step (by omega) hyd]⟩) ⟨rfl, rfl, rfl, rfl, rfl, rfl, rfl, trivial⟩ ⟨rfl, (congrArg (Value.int .u64) (by (try dsimp only); omega)), (congrArg (Value.int .i64) (by (try dsimp only); omega)), trivial⟩
             refine SR <| CN <| Op1.mkIface (v := .int .i64 _) ty251 rfl rfl <| CN <| Op1.assign (v := .int .u64 _) rfl <| CN <| Op1.assign (v := .iface _ _) rfl <| NL <| run_ret2 Tryz.func144 rfl (TP (v := .int .u64 _) rfl) (TP (v := .iface _ _) rfl) ?_
             have hno : ¬ hexB (s.getD i 0) = true := fun hn => by have hn2 := of_decide_eq_true hn; omega
             exact ⟨.inr ⟨.inr (hJ.2.2.trans (hexs_stop (by omega) hno)), rfl⟩, hst.pure⟩
           refine OM (t := 125) rfl (congrArg Value.bool (decide_eq_false g37)) rfl <| OM (t := 125) rfl (congrArg Value.bool (decide_eq_false g37)) rfl <| OM (t := 125) rfl (congrArg Value.bool (decide_eq_false g37)) rfl <| CN <| Op1.pickF (u := .bool _) (congrArg Value.bool (decide_eq_false g37)) rfl <| AB rfl <| NL <| Run.forget [(1, .int .i64 _), (8, .bool _), (9, str _), (10, .int .u64 _), (11, .int .u64 _), (12, .bool _), (13, .int .u64 _), (15, .int .u8 _), (99, .slice _ _ _), (100, .int .i64 _), (101, .int .i64 _), (121, .bool _)] ⟨rfl, rfl, rfl, rfl, rfl, rfl, rfl, rfl, rfl, rfl, rfl, rfl, trivial⟩ fun f => run_cond_false (congrArg Value.bool (rfl : false = _)) <| SR <| CN <| Op1.mkIface (v := .int .i64 _) ty251 rfl rfl <| CN <| Op1.assign (v := .int .u64 _) rfl <| CN <| Op1.assign (v := .iface _ _) rfl <| NL <| run_ret2 Tryz.func144 rfl (TP (v := .int .u64 _) rfl) (TP (v := .iface _ _) rfl) ?_
           have hno : ¬ hexB (s.getD i 0) = true := fun hn => by have hn2 := of_decide_eq_true hn; omega
           exact ⟨.inr ⟨.inr (hJ.2.2.trans (hexs_stop (by omega) hno)), rfl⟩, hst.pure⟩
         refine OM (t := 115) rfl (congrArg Value.bool (decide_eq_false g31)) rfl <| OM (t := 115) rfl (congrArg Value.bool (decide_eq_false g31)) rfl <| CN <| Op1.pickF (u := .bool _) (congrArg Value.bool (decide_eq_false g31)) rfl <| AB rfl <| NL <| run_cond_false (congrArg Value.bool (rfl : false = _)) <| SR <| MC rfl <| CN <| Op1.call1 (v1 := .int .u8 _) ent187 rfl rfl <| Ret.det (lx_lower _ _) hst fun w hst => CN <| Op1.leq rfl rfl <| MB rfl <| RunL.splitD (d := 125) rfl (fun g43 => ?_) (fun g43 => ?_)
         · skip
           refine TK (t := 125) rfl (congrArg Value.bool (decide_eq_true g43)) <| Op1.move (v := .int .u8 _) rfl <| TK (t := 125) rfl (congrArg Value.bool (decide_eq_true g43)) (Op1.call1 (v1 := .int .u8 _) ent187 rfl rfl ((lx_lower _ _).mono fun v w hp => ?_))
           obtain ⟨rfl, hp⟩ := hp
           replace hst := hst.keepc hp
           clear hp
           refine TK (t := 125) rfl (congrArg Value.bool (decide_eq_true g43)) <| Op1.leq rfl rfl <| CN <| Op1.pickT (u := .bool _) (congrArg Value.bool (decide_eq_true g43)) rfl <| AB rfl <| NL <| Run.forget [(1, .int .i64 _), (8, .bool _), (9, str _), (10, .int .u64 _), (11, .int .u64 _), (12, .bool _), (13, .int .u64 _), (15, .int .u8 _), (99, .slice _ _ _), (100, .int .i64 _), (101, .int .i64 _), (121, .bool _)] ⟨rfl, rfl, rfl, rfl, rfl, rfl, rfl, rfl, rfl, rfl, rfl, rfl, trivial⟩ fun f => run_cond_dec rfl (fun g44 => ?_) (fun g44 => ?_)
           · skip
             refine RG <| MC rfl <| CN <| Op1.call1 (v1 := .int .u8 _) ent187 rfl rfl <| Ret.det (lx_lower _ _) hst fun w hst => CN <| Op1.subN rfl rfl rfl (wrap_u8 (by omega) (by omega)) <| CN <| Op1.addN rfl rfl rfl (wrap_u8 (by omega) (by omega)) <| AC rfl <| NL <| run_inBlock <| SQ <| SR <| MC rfl <| MI rfl ?_
             first | refine CN (Op1.convN ty3 ty5 rfl (wrap_u8 (by omega) (by omega)) ?_) | refine CN (Op1.conv ty3 ty5 rfl ?_)
             refine CN <| Op1.geq rfl rfl <| NL <| run_cond_dec rfl (fun g45 => ?_) (fun g45 => ?_)
             · skip
               refine SR <| CN <| Op1.mkIface (v := .int .i64 _) ty251 rfl rfl <| CN <| Op1.assign (v := .int .u64 _) rfl <| CN <| Op1.assign (v := .iface _ _) rfl <| NL <| run_ret2 Tryz.func144 rfl (TP (v := .int .u64 _) rfl) (TP (v := .iface _ _) rfl) ?_
               have hno : ¬ hexB (s.getD i 0) = true := fun hn => by have hn2 := of_decide_eq_true hn; omega
               exact ⟨.inr ⟨.inr (hJ.2.2.trans (hexs_stop (by omega) hno)), rfl⟩, hst.pure⟩
             have hyd : hexB (s.getD i 0) = true := Classical.byContradiction fun hn => by have hn2 := of_decide_eq_false (Bool.not_eq_true _ ▸ hn); omega
             have hwd : (worF (s.getD i 0) : Int) = bits .or .u8 ((s.getD i 0).toNat : Int) 32 - 87 := by have hq := of_decide_eq_true hyd; unfold worF; split <;> (try split) <;> omega
             refine run_skip <| SQ <| SR <| CN <| Op1.move (v := .int .u64 _) rfl <| CN <| Op1.move (v := .int .u64 _) rfl <| CN <| Op1.geq rfl rfl <| NL <| run_cond_dec rfl (fun g46 => ?_) (fun g46 => ?_)
             · skip
               exfalso
               omega
             refine run_skip <| SR <| CN <| Op1.move (v := .int .u64 _) rfl <| MI rfl ?_
             first | refine CN (Op1.convN ty3 ty149 rfl (wrap_u64 (by omega) (by omega)) ?_) | refine CN (Op1.conv ty3 ty149 rfl ?_)
             refine CN <| Op1.mulN rfl rfl rfl (wrap_u64 (by omega) (by omega)) <| CN <| Op1.assign (v := .int .u64 _) rfl <| NSR <| CN <| Op1.move (v := .int .u64 _) rfl <| MC rfl ?_
             first | refine CN (Op1.convN ty5 ty149 rfl (wrap_u64 (by omega) (by omega)) ?_) | refine CN (Op1.conv ty5 ty149 rfl ?_)
             refine CN <| Op1.addN rfl rfl rfl (wrap_u64 (by omega) (by omega)) <| CN <| Op1.assign (v := .int .u64 _) rfl <| NL <| Run.forget [(1, .int .i64 _), (8, .bool _), (9, str _), (10, .int .u64 _), (11, .int .u64 _), (12, .bool _), (13, .int .u64 _), (17, .int .u64 _), (99, .slice _ _ _), (100, .int .i64 _), (101, .int .i64 _)] ⟨rfl, rfl, rfl, rfl, rfl, rfl, rfl, rfl, rfl, rfl, rfl, trivial⟩ fun f => SQ <| SR <| CN <| Op1.move (v := .int .u64 _) rfl <| CN <| Op1.move (v := .int .u64 _) rfl <| CN <| Op1.lss rfl rfl <| MB rfl <| RunL.splitD (d := 155) rfl (fun g47 => ?_) (fun g47 => ?_)
             · skip
               exfalso
               omega
             refine TK (t := 155) rfl (congrArg Value.bool (decide_eq_false g47)) <| Op1.move (v := .int .u64 _) rfl <| TK (t := 155) rfl (congrArg Value.bool (decide_eq_false g47)) <| Op1.move (v := .int .u64 _) rfl <| TK (t := 155) rfl (congrArg Value.bool (decide_eq_false g47)) <| Op1.gtr rfl rfl <| CN <| Op1.pickF (u := .bool _) (congrArg Value.bool (decide_eq_false g47)) rfl <| NL <| run_cond_dec rfl (fun g48 => ?_) (fun g48 => ?_)
             · skip
               exfalso
               omega
             refine run_skip <| RG <| CN <| Op1.move (v := .int .u64 _) rfl <| CN <| Op1.assign (v := .int .u64 _) rfl <| NL <| run_inBlock <| RG <| CN <| Op1.addN rfl rfl rfl (wrap_i64 (by omega) (by omega)) <| MI rfl <| NL <| run_inLoop ?_
             exact ih9 ((i + 1, 16 * n + worF (s.getD i 0))) _ w (by (try dsimp only); omega) hst (⟨by (try dsimp only); omega, by (try dsimp only); exact pow16_step hJ.2.1 (hex_bd hyd).2, by (try dsimp only); rw [hJ.2.2, hexs_step (by omega) hyd]⟩) ⟨rfl, rfl, rfl, rfl, rfl, rfl, rfl, trivial⟩ ⟨rfl, (congrArg (Value.int .u64) (by (try dsimp only); omega)), (congrArg (Value.int .i64) (by (try dsimp only); omega)), trivial⟩
           refine SR <| CN <| Op1.mkIface (v := .int .i64 _) ty251 rfl rfl <| CN <| Op1.assign (v := .int .u64 _) rfl <| CN <| Op1.assign (v := .iface _ _) rfl <| NL <| run_ret2 Tryz.func144 rfl (TP (v := .int .u64 _) rfl) (TP (v := .iface _ _) rfl) ?_
           have hno : ¬ hexB (s.getD i 0) = true := fun hn => by have hn2 := of_decide_eq_true hn; omega
           exact ⟨.inr ⟨.inr (hJ.2.2.trans (hexs_stop (by omega) hno)), rfl⟩, hst.pure⟩
         refine OM (t := 125) rfl (congrArg Value.bool (decide_eq_false g43)) rfl <| OM (t := 125) rfl (congrArg Value.bool (decide_eq_false g43)) rfl <| OM (t := 125) rfl (congrArg Value.bool (decide_eq_false g43)) rfl <| CN <| Op1.pickF (u := .bool _) (congrArg Value.bool (decide_eq_false g43)) rfl <| AB rfl <| NL <| Run.forget [(1, .int .i64 _), (8, .bool _), (9, str _), (10, .int .u64 _), (11, .int .u64 _), (12, .bool _), (13, .int .u64 _), (15, .int .u8 _), (99, .slice _ _ _), (100, .int .i64 _), (101, .int .i64 _), (121, .bool _)] ⟨rfl, rfl, rfl, rfl, rfl, rfl, rfl, rfl, rfl, rfl, rfl, rfl, trivial⟩ fun f => run_cond_false (congrArg Value.bool (rfl : false = _)) <| SR <| CN <| Op1.mkIface (v := .int .i64 _) ty251 rfl rfl <| CN <| Op1.assign (v := .int .u64 _) rfl <| CN <| Op1.assign (v := .iface _ _) rfl <| NL <| run_ret2 Tryz.func144 rfl (TP (v := .int .u64 _) rfl) (TP (v := .iface _ _) rfl) ?_
         have hno : ¬ hexB (s.getD i 0) = true := fun hn => by have hn2 := of_decide_eq_true hn; omega
         exact ⟨.inr ⟨.inr (hJ.2.2.trans (hexs_stop (by omega) hno)), rfl⟩, hst.pure⟩
       refine run_exit (id := 3) rfl <| SQ <| SR <| MB rfl <| MB rfl <| OM (t := 165) rfl (congrArg Value.bool (rfl : false = _)) rfl <| OM (t := 165) rfl (congrArg Value.bool (rfl : false = _)) rfl <| OM (t := 165) rfl (congrArg Value.bool (rfl : false = _)) rfl <| CN <| Op1.pickF (u := .bool _) (congrArg Value.bool (rfl : false = _)) rfl <| NL <| run_cond_false (congrArg Value.bool (rfl : false = _)) <| run_skip <| SQ <| RG ?_
       refine CN <| Op1.move (v := .int .u64 _) rfl <| CN <| Op1.assign (v := .int .u64 _) rfl <| CN <| Op1.assign (v := .nilIface) rfl <| NL <| run_ret2 Tryz.func144 rfl (TP (v := .int .u64 _) rfl) (TP (v := .nilIface) rfl) ?_
       exact ⟨.inl ⟨n, fun e => g1 (List.length_eq_zero_iff.1 e), hJ.2.2.trans (hexs_end (by omega)), rfl⟩, hst.pure⟩
     exfalso
     omega
   exfalso
   omega
 exfalso
 omega
end Go.SK
namespace Go.SK
open Go Go.Proofs
theorem ent144 : Enters Tryz.prog 144 := ⟨Tryz.f144, _, Tryz.func144, by kernel_rfl, rfl⟩
theorem ty151 : TyF Tryz.prog 151 (.interface (methodsOf Tryz.prog 151)) 1 16 [.nilIface] := TyF.of (by kernel_rfl) (by kernel_rfl)
theorem ent145 : Enters Tryz.prog 145 := ⟨Tryz.f145, _, Tryz.func145, by kernel_rfl, rfl⟩
theorem ent86 : Enters Tryz.prog 86 := ⟨Tryz.f86, _, Tryz.func86, by kernel_rfl, rfl⟩
theorem ent97 : Enters Tryz.prog 97 := ⟨Tryz.f97, _, Tryz.func97, by kernel_rfl, rfl⟩
theorem ent83 : Enters Tryz.prog 83 := ⟨Tryz.f83, _, Tryz.func83, by kernel_rfl, rfl⟩
theorem ent84 : Enters Tryz.prog 84 := ⟨Tryz.f84, _, Tryz.func84, by kernel_rfl, rfl⟩
theorem ent85 : Enters Tryz.prog 85 := ⟨Tryz.f85, _, Tryz.func85, by kernel_rfl, rfl⟩
theorem ent87 : Enters Tryz.prog 87 := ⟨Tryz.f87, _, Tryz.func87, by kernel_rfl, rfl⟩
end Go.SK
namespace Go.SK
open Go Go.Proofs
open Go.RowKit
theorem R7lx_PU16 (s : Tx) (hl : s.length ≤ 8) (w : World) (hG : LxG.holds w) : Ret Tryz.prog 86 #[str s, .int .i64 16, .int .i64 32] w (fun v w' => ((∃ n, s.length ≠ 0 ∧ hexsF s 0 = some n ∧ v = .tuple #[.int .u64 (n : Int), .nilIface]) ∨ ((s.length = 0 ∨ hexsF s 0 = none) ∧ ∃ N, v = .tuple #[.int .u64 0, .iface 252 (.pointer (some ⟨N, 0, none⟩))])) ∧ St w NoM [] [] w') := by
 refine Ret.enter (args := [str s, .int .i64 16, .int .i64 32]) Tryz.func86 rfl rfl rfl ?_
 have hst : St w NoM [] [LxG] w := St.init_Ds (by simp only [List.forall_mem_cons]; exact ⟨hG, fun _ h => absurd h List.not_mem_nil⟩)
 refine SR <| CN <| Op1.assign (v := .int .u64 _) rfl <| CN <| Op1.assign (v := .nilIface) rfl <| NSR <| MS rfl <| MI rfl <| MI rfl <| CN (Op1.call3 (v1 := str _) (v2 := .int .i64 _) (v3 := .int .i64 _) ent144 rfl rfl rfl rfl ((R7lx_iPU16 s hl _).mono fun v w hp => ?_))
 replace hp := or_and_right.1 hp
 rcases hp with ⟨⟨n, hne, hn, rfl⟩, hp⟩ | ⟨⟨hno, rfl⟩, hp⟩
 · skip
   replace hst := hst.keepc hp
   clear hp
   refine CN <| Op1.move (v := .tuple #[.int .u64 _, .nilIface]) rfl <| CN <| Op1.extract (v := .int .u64 _) rfl rfl <| CN <| Op1.extract (v := .nilIface) rfl rfl <| CN <| Op1.assign (v := .int .u64 _) rfl <| CN <| Op1.assign (v := .nilIface) rfl <| NL <| SQ <| SR <| CN <| Op1.move (v := .nilIface) rfl <| CN <| Op1.neqNN ty151 rfl rfl <| NL <| run_cond_false (congrArg Value.bool (rfl : false = _)) <| run_skip <| SQ ?_
   refine RG <| CN <| Op1.move (v := .int .u64 _) rfl <| CN <| Op1.assign (v := .int .u64 _) rfl <| CN <| Op1.assign (v := .nilIface) rfl <| NL <| run_ret2 Tryz.func86 rfl (TP (v := .int .u64 _) rfl) (TP (v := .nilIface) rfl) ?_
   exact ⟨.inl ⟨n, hne, hn, rfl⟩, hst.pure⟩
 · skip
   replace hst := hst.keepc hp
   clear hp
   refine CN <| Op1.move (v := .tuple #[.int .u64 _, .iface _ _]) rfl <| CN <| Op1.extract (v := .int .u64 _) rfl rfl <| CN <| Op1.extract (v := .iface _ _) rfl rfl <| CN <| Op1.assign (v := .int .u64 _) rfl <| CN <| Op1.assign (v := .iface _ _) rfl <| NL <| SQ <| SR <| CN <| Op1.move (v := .iface _ _) rfl <| CN <| Op1.neqIN ty151 rfl rfl <| NL <| run_cond_true (congrArg Value.bool (rfl : true = _)) <| SQ <| RG ?_
   refine CN <| Op1.move (v := .int .u64 _) rfl <| MS rfl <| MI rfl <| MI rfl <| CN <| Op1.move (v := .iface _ _) rfl <| CN (Op1.call5 (v1 := str _) (v2 := str _) (v3 := .int .i64 _) (v4 := .int .i64 _) (v5 := .iface _ _) ent145 rfl rfl rfl rfl rfl rfl ((lx_TE _ s _ (hst.hD _ (.head _)) (by omega)).mono fun v w hp => ?_))
   obtain ⟨⟨N, rfl⟩, hp⟩ := hp
   replace hst := hst.keepc hp
   clear hp
   refine CN <| Op1.assign (v := .int .u64 _) rfl <| CN <| Op1.assign (v := .iface _ _) rfl <| NL <| run_ret2 Tryz.func86 rfl (TP (v := .int .u64 _) rfl) (TP (v := .iface _ _) rfl) ?_
   exact ⟨.inr ⟨hno, N, rfl⟩, hst.pure⟩
theorem R7lx_plain (s : Tx) (w : World) (hG : LxG.holds w) (hl : s.length ≤ 140737488355328) : Ret Tryz.prog 83 #[str s] w (fun v w' => v = .tuple #[.int .u32 (puV s : Int), .bool (plainF s).isSome] ∧ St w NoM [] [] w') := by
 refine Ret.enter (args := [str s]) Tryz.func83 rfl rfl rfl ?_
 have hst : St w NoM [] [LxG] w := St.init_Ds (by simp only [List.forall_mem_cons]; exact ⟨hG, fun _ h => absurd h List.not_mem_nil⟩)
 have hpv := puV_le s
 refine SR <| AU rfl <| AB rfl <| NSR <| MS rfl <| CN (Op1.call3 (v1 := str _) (v2 := .int .i64 _) (v3 := .int .i64 _) ent86 rfl rfl rfl rfl ((lx_PU10 s _ (hst.hD _ (.head _)) (by omega)).mono fun v w hp => ?_))
 replace hp := or_and_right.1 hp
 rcases hp with ⟨⟨ho, rfl⟩, hp⟩ | ⟨⟨ho, N, rfl⟩, hp⟩
 · skip
   replace hst := hst.keepc hp
   clear hp
   refine CN <| Op1.move (v := .tuple #[.int .u64 _, .nilIface]) rfl <| CN <| Op1.extract (v := .int .u64 _) rfl rfl <| CN <| Op1.extract (v := .nilIface) rfl rfl <| CN <| Op1.assign (v := .int .u64 _) rfl <| CN <| Op1.assign (v := .nilIface) rfl <| NSR <| CN (Op1.move (v := .int .u64 _) rfl ?_)
   first | refine CN (Op1.convN ty149 ty22 rfl (wrap_u32 (by omega) (by omega)) ?_) | refine CN (Op1.conv ty149 ty22 rfl ?_)
   refine CN <| Op1.move (v := .nilIface) rfl <| CN <| Op1.eqlNN ty151 rfl rfl <| MB rfl <| TK (t := 15) rfl (congrArg Value.bool (rfl : true = _)) <| Op1.move (v := .int .u64 _) rfl <| TK (t := 15) rfl (congrArg Value.bool (rfl : true = _)) (Op1.call2 (v1 := .int .u64 _) (v2 := .int .i64 _) ent97 rfl rfl rfl ((R7lx_FU (puV s) (by omega) _ (hst.hD _ (.head _))).mono fun v w hp => ?_))
   obtain ⟨rfl, hp⟩ := hp
   replace hst := hst.keepc hp
   clear hp
   refine TK (t := 15) rfl (congrArg Value.bool (rfl : true = _)) <| Op1.move (v := str _) rfl <| TK (t := 15) rfl (congrArg Value.bool (rfl : true = _)) <| Op1.eqlS rfl rfl <| CN <| Op1.pickT (u := .bool _) (congrArg Value.bool (rfl : true = _)) rfl <| AU rfl <| AB rfl <| NL <| run_ret2 Tryz.func83 rfl (TP (v := .int .u32 _) rfl) (TP (v := .bool _) rfl) ?_
   rw [plain_yes ho]
   exact ⟨rfl, hst.pure⟩
 · skip
   replace hst := hst.keepc hp
   clear hp
   refine CN <| Op1.move (v := .tuple #[.int .u64 _, .iface _ _]) rfl <| CN <| Op1.extract (v := .int .u64 _) rfl rfl <| CN <| Op1.extract (v := .iface _ _) rfl rfl <| CN <| Op1.assign (v := .int .u64 _) rfl <| CN <| Op1.assign (v := .iface _ _) rfl <| NSR <| CN (Op1.move (v := .int .u64 _) rfl ?_)
   first | refine CN (Op1.convN ty149 ty22 rfl (wrap_u32 (by omega) (by omega)) ?_) | refine CN (Op1.conv ty149 ty22 rfl ?_)
   refine CN <| Op1.move (v := .iface _ _) rfl <| CN <| Op1.eqlIN ty151 rfl rfl <| MB rfl <| OM (t := 15) rfl (congrArg Value.bool (rfl : false = _)) rfl <| OM (t := 15) rfl (congrArg Value.bool (rfl : false = _)) rfl <| OM (t := 15) rfl (congrArg Value.bool (rfl : false = _)) rfl <| OM (t := 15) rfl (congrArg Value.bool (rfl : false = _)) rfl <| CN <| Op1.pickF (u := .bool _) (congrArg Value.bool (rfl : false = _)) rfl <| AU rfl <| AB rfl <| NL <| run_ret2 Tryz.func83 rfl (TP (v := .int .u32 _) rfl) (TP (v := .bool _) rfl) ?_
   rw [plain_no ho]
   exact ⟨rfl, hst.pure⟩
theorem R7lx_lNumber (s : Tx) (w : World) (hG : LxG.holds w) (hl : s.length ≤ 140737488355328) : Ret Tryz.prog 40 #[str s] w (fun v w' => v = .tuple #[.int .u32 (numLx s).1, .int .i64 (numLx s).2] ∧ St w NoM [] [] w') := by
 refine Ret.enter (args := [str s]) Tryz.func40 rfl rfl rfl ?_
 have hst : St w NoM [] [LxG] w := St.init_Ds (by simp only [List.forall_mem_cons]; exact ⟨hG, fun _ h => absurd h List.not_mem_nil⟩)
 refine SR <| AU rfl <| AI rfl <| NL <| SQ <| SR <| MS rfl <| CN <| Op1.call1 (v1 := str _) ent83 rfl rfl <| Ret.det (R7lx_plain _ _ (hst.hD _ (.head _)) (by first | omega | (simp only [List.length_drop, List.length_take, List.length_append, List.length_cons, List.length_nil]; omega))) hst fun w hst => CN <| Op1.move (v := .tuple #[.int .u32 _, .bool _]) rfl <| CN <| Op1.extract (v := .int .u32 _) rfl rfl <| CN <| Op1.extract (v := .bool _) rfl rfl <| AU rfl <| AB rfl ?_
 refine NSR <| MB rfl <| NL <| run_cond_split rfl (fun g1 => ?_) (fun g1 => ?_)
 · skip
   obtain ⟨n0, hn0⟩ := isSome_ex g1
   have hpr := plain_dec hn0
   refine SR <| MU rfl <| AU rfl <| AI rfl <| NL <| run_ret2 Tryz.func40 rfl (TP (v := .int .u32 _) rfl) (TP (v := .int .i64 _) rfl) ?_
   rw [numF_plain hn0, hpr.2.1]
   exact ⟨rfl, hst.pure⟩
 have hpn := isSome_no g1
 refine run_skip <| SQ <| SR <| MS rfl <| CN (Op1.call2 (v1 := str _) (v2 := str _) ent84 rfl rfl rfl ((lx_CPc s [45] _).mono fun v w hp => ?_))
 rcases hp with ⟨hm0, rfl, hp⟩ | ⟨hm0, rfl, hp⟩
 · skip
   replace hst := hst.keepc hp
   clear hp
   have hm := take1 hm0
   have hm45 : (45 : UInt8).toNat = 45 := rfl
   have hcl : ([45] : Tx).length = 1 := rfl
   rw [hm45] at hm
   refine CN <| Op1.move (v := .tuple #[str _, .bool _]) rfl <| CN <| Op1.extract (v := str _) rfl rfl <| CN <| Op1.extract (v := .bool _) rfl rfl <| AS rfl <| AB rfl <| NSR <| MB rfl <| NL <| run_cond_true (congrArg Value.bool (rfl : true = _)) <| SR <| MS rfl <| CN <| Op1.call1 (v1 := str _) ent83 rfl rfl <| Ret.det (R7lx_plain _ _ (hst.hD _ (.head _)) (by first | omega | (simp only [List.length_drop, List.length_take, List.length_append, List.length_cons, List.length_nil]; omega))) hst fun w hst => ?_
   refine CN <| Op1.move (v := .tuple #[.int .u32 _, .bool _]) rfl <| CN <| Op1.extract (v := .int .u32 _) rfl rfl <| CN <| Op1.extract (v := .bool _) rfl rfl <| AU rfl <| AB rfl <| NL <| Run.forget [(0, str _), (8, .int .u32 _), (9, .bool _)] ⟨rfl, rfl, rfl, trivial⟩ fun f => SR <| MB rfl <| MB rfl <| RunL.split (d := 33) rfl (fun g2 => ?_) (fun g2 => ?_)
   · skip
     obtain ⟨m, hm0m⟩ := isSome_ex g2
     have hmm : plainF (s.drop 1) = some m := hm0m
     have hpm : puV (s.drop ([45] : Tx).length) = m := (plain_dec hm0m).2.1
     refine TK (t := 33) rfl (congrArg Value.bool g2) <| Op1.move (v := .int .u32 _) rfl <| TK (t := 33) rfl (congrArg Value.bool g2) <| Op1.geq rfl rfl <| CN <| Op1.pickT (u := .bool _) (congrArg Value.bool g2) rfl <| MB rfl <| RunL.splitD (d := 37) rfl (fun g3 => ?_) (fun g3 => ?_)
     · skip
       refine TK (t := 37) rfl (congrArg Value.bool (decide_eq_true g3)) <| Op1.move (v := .int .u32 _) rfl <| TK (t := 37) rfl (congrArg Value.bool (decide_eq_true g3)) <| Op1.leq rfl rfl <| CN <| Op1.pickT (u := .bool _) (congrArg Value.bool (decide_eq_true g3)) rfl <| NL <| run_cond_dec rfl (fun g4 => ?_) (fun g4 => ?_)
       · skip
         refine SR <| MU rfl ?_
         first | refine CN (Op1.negN rfl rfl (wrap_u32 (by omega) (by omega)) ?_) | refine CN (Op1.neg rfl ?_)
         refine AU rfl <| AI rfl <| NL <| run_ret2 Tryz.func40 rfl (TP (v := .int .u32 _) rfl) (TP (v := .int .i64 _) rfl) ?_
         have hq : (1 : Int) ≤ (m : Int) ∧ (m : Int) ≤ 2147483648 := by omega
         rw [numF_minus2 hpn hm hmm (by omega)]
         have hw := neg_wrap (m := m) (by omega)
         rw [hpm, hw]
         exact ⟨rfl, hst.pure⟩
       refine run_skip <| SQ <| SR <| MS rfl <| CN (Op1.call2 (v1 := str _) (v2 := str _) ent84 rfl rfl rfl ((lx_CPc s [48, 120] _).mono fun v w hp => ?_))
       rcases hp with ⟨hx0, rfl, hp⟩ | ⟨hx0, rfl, hp⟩
       · skip
         have hx := take2 hx0
         have hx48 : (48 : UInt8).toNat = 48 := rfl
         have hx120 : (120 : UInt8).toNat = 120 := rfl
         rw [hx48, hx120] at hx
         exfalso; omega
       · skip
         replace hst := hst.keepc hp
         clear hp
         have hx := take2_no hx0
         have hx48 : (48 : UInt8).toNat = 48 := rfl
         have hx120 : (120 : UInt8).toNat = 120 := rfl
         rw [hx48, hx120] at hx
         refine CN <| Op1.move (v := .tuple #[str _, .bool _]) rfl <| CN <| Op1.extract (v := str _) rfl rfl <| CN <| Op1.extract (v := .bool _) rfl rfl <| AS rfl <| AB rfl <| NSR <| MB rfl <| MB rfl <| OM (t := 49) rfl (congrArg Value.bool (rfl : false = _)) rfl <| OM (t := 49) rfl (congrArg Value.bool (rfl : false = _)) rfl <| OM (t := 49) rfl (congrArg Value.bool (rfl : false = _)) rfl <| CN <| Op1.pickF (u := .bool _) (congrArg Value.bool (rfl : false = _)) rfl <| MB rfl ?_
         refine OM (t := 54) rfl (congrArg Value.bool (rfl : false = _)) rfl <| OM (t := 54) rfl (congrArg Value.bool (rfl : false = _)) rfl <| OM (t := 54) rfl (congrArg Value.bool (rfl : false = _)) rfl <| OM (t := 54) rfl (congrArg Value.bool (rfl : false = _)) rfl <| CN <| Op1.pickF (u := .bool _) (congrArg Value.bool (rfl : false = _)) rfl <| NL <| Run.forget [(10, str _), (59, .bool _)] ⟨rfl, rfl, trivial⟩ fun f => run_cond_false (congrArg Value.bool (rfl : false = _)) <| run_skip <| SR <| AU rfl <| AI rfl <| NL <| run_ret2 Tryz.func40 rfl (TP (v := .int .u32 _) rfl) (TP (v := .int .i64 _) rfl) ?_
         rw [numF_minusBad2 hpn hm (fun n hn => by rw [hmm] at hn; cases hn; omega)]
         exact ⟨rfl, hst.pure⟩
     refine OM (t := 37) rfl (congrArg Value.bool (decide_eq_false g3)) rfl <| OM (t := 37) rfl (congrArg Value.bool (decide_eq_false g3)) rfl <| CN <| Op1.pickF (u := .bool _) (congrArg Value.bool (decide_eq_false g3)) rfl <| NL <| run_cond_false (congrArg Value.bool (rfl : false = _)) <| run_skip <| SQ <| SR <| MS rfl <| CN (Op1.call2 (v1 := str _) (v2 := str _) ent84 rfl rfl rfl ((lx_CPc s [48, 120] _).mono fun v w hp => ?_))
     rcases hp with ⟨hx0, rfl, hp⟩ | ⟨hx0, rfl, hp⟩
     · skip
       have hx := take2 hx0
       have hx48 : (48 : UInt8).toNat = 48 := rfl
       have hx120 : (120 : UInt8).toNat = 120 := rfl
       rw [hx48, hx120] at hx
       exfalso; omega
     · skip
       replace hst := hst.keepc hp
       clear hp
       have hx := take2_no hx0
       have hx48 : (48 : UInt8).toNat = 48 := rfl
       have hx120 : (120 : UInt8).toNat = 120 := rfl
       rw [hx48, hx120] at hx
       refine CN <| Op1.move (v := .tuple #[str _, .bool _]) rfl <| CN <| Op1.extract (v := str _) rfl rfl <| CN <| Op1.extract (v := .bool _) rfl rfl <| AS rfl <| AB rfl <| NSR <| MB rfl <| MB rfl <| OM (t := 49) rfl (congrArg Value.bool (rfl : false = _)) rfl <| OM (t := 49) rfl (congrArg Value.bool (rfl : false = _)) rfl <| OM (t := 49) rfl (congrArg Value.bool (rfl : false = _)) rfl <| CN <| Op1.pickF (u := .bool _) (congrArg Value.bool (rfl : false = _)) rfl <| MB rfl ?_
       refine OM (t := 54) rfl (congrArg Value.bool (rfl : false = _)) rfl <| OM (t := 54) rfl (congrArg Value.bool (rfl : false = _)) rfl <| OM (t := 54) rfl (congrArg Value.bool (rfl : false = _)) rfl <| OM (t := 54) rfl (congrArg Value.bool (rfl : false = _)) rfl <| CN <| Op1.pickF (u := .bool _) (congrArg Value.bool (rfl : false = _)) rfl <| NL <| Run.forget [(10, str _), (59, .bool _)] ⟨rfl, rfl, trivial⟩ fun f => run_cond_false (congrArg Value.bool (rfl : false = _)) <| run_skip <| SR <| AU rfl <| AI rfl <| NL <| run_ret2 Tryz.func40 rfl (TP (v := .int .u32 _) rfl) (TP (v := .int .i64 _) rfl) ?_
       rw [numF_minusBad2 hpn hm (fun n hn => by rw [hmm] at hn; cases hn; omega)]
       exact ⟨rfl, hst.pure⟩
   have hmn : plainF (s.drop 1) = none := isSome_no g2
   refine OM (t := 33) rfl (congrArg Value.bool g2) rfl <| OM (t := 33) rfl (congrArg Value.bool g2) rfl <| CN <| Op1.pickF (u := .bool _) (congrArg Value.bool g2) rfl <| MB rfl <| OM (t := 37) rfl (congrArg Value.bool (rfl : false = _)) rfl <| OM (t := 37) rfl (congrArg Value.bool (rfl : false = _)) rfl <| CN <| Op1.pickF (u := .bool _) (congrArg Value.bool (rfl : false = _)) rfl <| NL <| run_cond_false (congrArg Value.bool (rfl : false = _)) <| run_skip <| SQ <| SR <| MS rfl <| CN (Op1.call2 (v1 := str _) (v2 := str _) ent84 rfl rfl rfl ((lx_CPc s [48, 120] _).mono fun v w hp => ?_))
   rcases hp with ⟨hx0, rfl, hp⟩ | ⟨hx0, rfl, hp⟩
   · skip
     have hx := take2 hx0
     have hx48 : (48 : UInt8).toNat = 48 := rfl
     have hx120 : (120 : UInt8).toNat = 120 := rfl
     rw [hx48, hx120] at hx
     exfalso; omega
   · skip
     replace hst := hst.keepc hp
     clear hp
     have hx := take2_no hx0
     have hx48 : (48 : UInt8).toNat = 48 := rfl
     have hx120 : (120 : UInt8).toNat = 120 := rfl
     rw [hx48, hx120] at hx
     refine CN <| Op1.move (v := .tuple #[str _, .bool _]) rfl <| CN <| Op1.extract (v := str _) rfl rfl <| CN <| Op1.extract (v := .bool _) rfl rfl <| AS rfl <| AB rfl <| NSR <| MB rfl <| MB rfl <| OM (t := 49) rfl (congrArg Value.bool (rfl : false = _)) rfl <| OM (t := 49) rfl (congrArg Value.bool (rfl : false = _)) rfl <| OM (t := 49) rfl (congrArg Value.bool (rfl : false = _)) rfl <| CN <| Op1.pickF (u := .bool _) (congrArg Value.bool (rfl : false = _)) rfl <| MB rfl ?_
     refine OM (t := 54) rfl (congrArg Value.bool (rfl : false = _)) rfl <| OM (t := 54) rfl (congrArg Value.bool (rfl : false = _)) rfl <| OM (t := 54) rfl (congrArg Value.bool (rfl : false = _)) rfl <| OM (t := 54) rfl (congrArg Value.bool (rfl : false = _)) rfl <| CN <| Op1.pickF (u := .bool _) (congrArg Value.bool (rfl : false = _)) rfl <| NL <| run_cond_false (congrArg Value.bool (rfl : false = _)) <| run_skip <| SR <| AU rfl <| AI rfl <| NL <| run_ret2 Tryz.func40 rfl (TP (v := .int .u32 _) rfl) (TP (v := .int .i64 _) rfl) ?_
     rw [numF_minusBad2 hpn hm (fun n hn => by rw [hmn] at hn; cases hn)]
     exact ⟨rfl, hst.pure⟩
 · skip
   replace hst := hst.keepc hp
   clear hp
   have hm := take1_no hm0
   have hm45 : (45 : UInt8).toNat = 45 := rfl
   rw [hm45] at hm
   refine CN <| Op1.move (v := .tuple #[str _, .bool _]) rfl <| CN <| Op1.extract (v := str _) rfl rfl <| CN <| Op1.extract (v := .bool _) rfl rfl <| AS rfl <| AB rfl <| NSR <| MB rfl <| NL <| run_cond_false (congrArg Value.bool (rfl : false = _)) <| run_skip <| SQ <| SQ <| RG ?_
   refine MS rfl <| CN (Op1.call2 (v1 := str _) (v2 := str _) ent84 rfl rfl rfl ((lx_CPc s [48, 120] _).mono fun v w hp => ?_))
   rcases hp with ⟨hx0, rfl, hp⟩ | ⟨hx0, rfl, hp⟩
   · skip
     replace hst := hst.keepc hp
     clear hp
     have hx := take2 hx0
     have hx48 : (48 : UInt8).toNat = 48 := rfl
     have hx120 : (120 : UInt8).toNat = 120 := rfl
     rw [hx48, hx120] at hx
     have hcl2 : ([48, 120] : Tx).length = 2 := rfl
     refine CN <| Op1.move (v := .tuple #[str _, .bool _]) rfl <| CN <| Op1.extract (v := str _) rfl rfl <| CN <| Op1.extract (v := .bool _) rfl rfl <| AS rfl <| AB rfl <| NL <| Run.forget [(10, str _), (11, .bool _)] ⟨rfl, rfl, trivial⟩ fun f => SR <| MB rfl <| MB rfl <| TK (t := 49) rfl (congrArg Value.bool (rfl : true = _)) <| Op1.move (v := str _) rfl <| TK (t := 49) rfl (congrArg Value.bool (rfl : true = _)) <| Op1.lenS (rest := []) ty9 rfl <| TK (t := 49) rfl (congrArg Value.bool (rfl : true = _)) <| Op1.leq rfl rfl <| CN (Op1.pickT (u := .bool _) (congrArg Value.bool (rfl : true = _)) rfl ?_)
     refine MB rfl <| RunL.splitD (d := 54) rfl (fun g5 => ?_) (fun g5 => ?_)
     · skip
       refine TK (t := 54) rfl (congrArg Value.bool (decide_eq_true g5)) <| Op1.move (v := str _) rfl <| TK (t := 54) rfl (congrArg Value.bool (decide_eq_true g5)) (Op1.call1 (v1 := str _) ent85 rfl rfl ((R7lx_run _ _ (by first | omega | (simp only [List.length_drop]; omega))).mono fun v w hp => ?_))
       obtain ⟨rfl, hp⟩ := hp
       replace hst := hst.keepc hp
       clear hp
       refine TK (t := 54) rfl (congrArg Value.bool (decide_eq_true g5)) <| Op1.move (v := str _) rfl <| TK (t := 54) rfl (congrArg Value.bool (decide_eq_true g5)) <| Op1.eqlS rfl rfl <| CN <| Op1.pickT (u := .bool _) (congrArg Value.bool (decide_eq_true g5)) rfl <| NL <| run_cond_dec rfl (fun g6 => ?_) (fun g6 => ?_)
       · skip
         have hd2 : (s.drop ([48, 120] : Tx).length).length = s.length - 2 := List.length_drop
         have hd3 : (s.drop 2).length = s.length - 2 := List.length_drop
         have hl8 : (s.drop 2).length ≤ 8 := by omega
         refine SR <| MS rfl <| CN (Op1.call3 (v1 := str _) (v2 := .int .i64 _) (v3 := .int .i64 _) ent86 rfl rfl rfl rfl ((R7lx_PU16 (s.drop 2) hl8 _ (hst.hD _ (.head _))).mono fun v w hp => ?_))
         replace hp := or_and_right.1 hp
         rcases hp with ⟨⟨n, hne, hn, rfl⟩, hp⟩ | ⟨⟨hno, N, rfl⟩, hp⟩
         · skip
           replace hst := hst.keepc hp
           clear hp
           have hru := hexs_run _ _ _ hn
           have hnb := hexs_bd hn hl8
           refine CN <| Op1.move (v := .tuple #[.int .u64 _, .nilIface]) rfl <| CN <| Op1.extract (v := .int .u64 _) rfl rfl <| CN <| Op1.extract (v := .nilIface) rfl rfl <| CN <| Op1.assign (v := .int .u64 _) rfl <| CN <| Op1.assign (v := .nilIface) rfl <| NL <| Run.forget [(10, str _), (12, .int .u64 _), (13, .nilIface)] ⟨rfl, rfl, rfl, trivial⟩ fun f => SR <| CN <| Op1.move (v := .nilIface) rfl <| CN <| Op1.eqlNN ty151 rfl rfl <| MB rfl <| TK (t := 67) rfl (congrArg Value.bool (rfl : true = _)) <| Op1.move (v := str _) rfl <| TK (t := 67) rfl (congrArg Value.bool (rfl : true = _)) (Op1.call2 (v1 := str _) (v2 := .int .u8 _) ent87 rfl rfl rfl ((lx_IB (s.drop 2) 95 _).mono fun v w hp => ?_))
           obtain ⟨he, hp⟩ := hp
           replace he := he.trans ((by rw [show (95 : Int).toNat.toUInt8 = 95 from rfl, hru.2] : _ = Value.int .i64 (-1)))
           subst he
           replace hst := hst.keepc hp
           clear hp
           refine TK (t := 67) rfl (congrArg Value.bool (rfl : true = _)) <| Op1.lss rfl rfl <| CN <| Op1.pickT (u := .bool _) (congrArg Value.bool (rfl : true = _)) rfl <| NL <| run_cond_dec rfl (fun g7 => ?_) (fun g7 => ?_)
           · skip
             refine SR <| CN (Op1.move (v := .int .u64 _) rfl ?_)
             first | refine CN (Op1.convN ty149 ty22 rfl (wrap_u32 (by omega) (by omega)) ?_) | refine CN (Op1.conv ty149 ty22 rfl ?_)
             refine AU rfl <| AI rfl <| NL <| run_ret2 Tryz.func40 rfl (TP (v := .int .u32 _) rfl) (TP (v := .int .i64 _) rfl) ?_
             have hd2 : (s.drop 2).length = s.length - 2 := List.length_drop
             rw [numF_hex hpn (by omega) (by omega) hn]
             exact ⟨rfl, hst.pure⟩
           exfalso
           omega
         · skip
           replace hst := hst.keepc hp
           clear hp
           refine CN <| Op1.move (v := .tuple #[.int .u64 _, .iface _ _]) rfl <| CN <| Op1.extract (v := .int .u64 _) rfl rfl <| CN <| Op1.extract (v := .iface _ _) rfl rfl <| CN <| Op1.assign (v := .int .u64 _) rfl <| CN <| Op1.assign (v := .iface _ _) rfl <| NL <| Run.forget [(10, str _), (12, .int .u64 _), (13, .iface _ _)] ⟨rfl, rfl, rfl, trivial⟩ fun f => SR <| CN <| Op1.move (v := .iface _ _) rfl <| CN <| Op1.eqlIN ty151 rfl rfl <| MB rfl <| OM (t := 67) rfl (congrArg Value.bool (rfl : false = _)) rfl <| OM (t := 67) rfl (congrArg Value.bool (rfl : false = _)) rfl <| OM (t := 67) rfl (congrArg Value.bool (rfl : false = _)) rfl ?_
           refine CN <| Op1.pickF (u := .bool _) (congrArg Value.bool (rfl : false = _)) rfl <| NL <| run_cond_false (congrArg Value.bool (rfl : false = _)) <| run_skip <| SR <| AU rfl <| AI rfl <| NL <| run_ret2 Tryz.func40 rfl (TP (v := .int .u32 _) rfl) (TP (v := .int .i64 _) rfl) ?_
           have hd2 : (s.drop 2).length = s.length - 2 := List.length_drop
           rw [numF_hexBad2 hpn hx (by rcases hno with h0 | h0; exact .inr (.inl (by omega)); exact .inr (.inr h0))]
           exact ⟨rfl, hst.pure⟩
       refine run_skip <| SR <| AU rfl <| AI rfl <| NL <| run_ret2 Tryz.func40 rfl (TP (v := .int .u32 _) rfl) (TP (v := .int .i64 _) rfl) ?_
       rw [numF_hexBad2 hpn hx (.inr (.inr (by cases hq : hexsF (s.drop 2) 0 with | none => rfl | some n => exact absurd (hexs_run _ _ _ hq).1 g6)))]
       exact ⟨rfl, hst.pure⟩
     refine OM (t := 54) rfl (congrArg Value.bool (decide_eq_false g5)) rfl <| OM (t := 54) rfl (congrArg Value.bool (decide_eq_false g5)) rfl <| OM (t := 54) rfl (congrArg Value.bool (decide_eq_false g5)) rfl <| OM (t := 54) rfl (congrArg Value.bool (decide_eq_false g5)) rfl <| CN <| Op1.pickF (u := .bool _) (congrArg Value.bool (decide_eq_false g5)) rfl <| NL <| run_cond_false (congrArg Value.bool (rfl : false = _)) <| run_skip <| SR <| AU rfl <| AI rfl <| NL <| run_ret2 Tryz.func40 rfl (TP (v := .int .u32 _) rfl) (TP (v := .int .i64 _) rfl) ?_
     have hd2 : (s.drop ([48, 120] : Tx).length).length = s.length - 2 := List.length_drop
     rw [numF_hexBad2 hpn hx (.inl (by omega))]
     exact ⟨rfl, hst.pure⟩
   · skip
     replace hst := hst.keepc hp
     clear hp
     have hx := take2_no hx0
     have hx48 : (48 : UInt8).toNat = 48 := rfl
     have hx120 : (120 : UInt8).toNat = 120 := rfl
     rw [hx48, hx120] at hx
     refine CN <| Op1.move (v := .tuple #[str _, .bool _]) rfl <| CN <| Op1.extract (v := str _) rfl rfl <| CN <| Op1.extract (v := .bool _) rfl rfl <| AS rfl <| AB rfl <| NL <| Run.forget [(10, str _), (11, .bool _)] ⟨rfl, rfl, trivial⟩ fun f => SR <| MB rfl <| MB rfl <| OM (t := 49) rfl (congrArg Value.bool (rfl : false = _)) rfl <| OM (t := 49) rfl (congrArg Value.bool (rfl : false = _)) rfl <| OM (t := 49) rfl (congrArg Value.bool (rfl : false = _)) rfl <| CN (Op1.pickF (u := .bool _) (congrArg Value.bool (rfl : false = _)) rfl ?_)
     refine MB rfl <| OM (t := 54) rfl (congrArg Value.bool (rfl : false = _)) rfl <| OM (t := 54) rfl (congrArg Value.bool (rfl : false = _)) rfl <| OM (t := 54) rfl (congrArg Value.bool (rfl : false = _)) rfl <| OM (t := 54) rfl (congrArg Value.bool (rfl : false = _)) rfl <| CN <| Op1.pickF (u := .bool _) (congrArg Value.bool (rfl : false = _)) rfl <| NL <| run_cond_false (congrArg Value.bool (rfl : false = _)) <| run_skip <| SR <| AU rfl <| AI rfl <| NL <| run_ret2 Tryz.func40 rfl (TP (v := .int .u32 _) rfl) (TP (v := .int .i64 _) rfl) ?_
     rw [numF_bad hpn (by omega) (by omega)]
     exact ⟨rfl, hst.pure⟩
end Go.SK
namespace Go.SK
open Go Go.Proofs
theorem ent40 : Enters Tryz.prog 40 := ⟨Tryz.f40, _, Tryz.func40, by kernel_rfl, rfl⟩
theorem ent205 : Enters Tryz.prog 205 := ⟨Tryz.f205, _, Tryz.func205, by kernel_rfl, rfl⟩
end Go.SK
namespace Go.SK
open Go Go.Proofs
open Go.RowKit
theorem R7lx_escaped (s : Tx) (w : World) (hG : LxG.holds w) (hl : s.length ≤ 140737488355327) : Ret Tryz.prog 184 #[str s] w (fun v w' => v = partV (escF s) ∧ St w NoM [] [] w') := by
 refine Ret.enter (args := [str s]) Tryz.func184 rfl rfl rfl ?_
 have hst : St w NoM [] [LxG] w := St.init_Ds (by simp only [List.forall_mem_cons]; exact ⟨hG, fun _ h => absurd h List.not_mem_nil⟩)
 have hidx0 : (s.getD ((0 : Int).toNat) 0).toNat = (s.getD 0 0).toNat := rfl
 have h48 : (numLx ([48] ++ s.take ((3 : Int).toNat))).2 = (numLx ([48] ++ s.take 3)).2 := rfl
 refine SR <| AC rfl <| AI rfl <| NL <| SQ <| run_block <| SR <| MS rfl <| CN <| Op1.eqlS rfl rfl <| AB rfl <| NL <| run_cond_dec rfl (fun g1 => ?_) (fun g1 => ?_)
 · skip
   refine run_skip <| run_inBlock <| SR <| AC rfl <| AI rfl <| NL <| run_ret2 Tryz.func184 rfl (TP (v := .int .u8 _) rfl) (TP (v := .int .i64 _) rfl) ?_
   subst g1
   exact ⟨rfl, hst.pure⟩
 have hpos : 0 < s.length := by rcases Nat.eq_zero_or_pos s.length with h0 | h0; exact absurd (List.length_eq_zero_iff.1 h0) g1; exact h0
 refine SQ <| SR <| MS rfl <| CN <| Op1.indexS ty9 rfl rfl (by omega) (by omega) <| CN <| Op1.eql rfl rfl <| AB rfl <| NL <| run_cond_dec rfl (fun g2 => ?_) (fun g2 => ?_)
 · skip
   refine run_skip <| run_cond_true (congrArg Value.bool (decide_eq_true g2)) <| SR <| MS rfl <| CN <| Op1.indexS ty9 rfl rfl (by omega) (by omega) <| AC rfl <| AI rfl <| NL <| run_ret2 Tryz.func184 rfl (TP (v := .int .u8 _) rfl) (TP (v := .int .i64 _) rfl) ?_
   rw [esc_mark (by omega) (by omega)]
   exact ⟨rfl, hst.pure⟩
 refine RG <| MS rfl <| CN <| Op1.indexS ty9 rfl rfl (by omega) (by omega) <| CN <| Op1.eql rfl rfl <| AB rfl <| NL <| run_cond_dec rfl (fun g3 => ?_) (fun g3 => ?_)
 · skip
   refine SR <| MS rfl <| CN <| Op1.indexS ty9 rfl rfl (by omega) (by omega) <| AC rfl <| AI rfl <| NL <| run_ret2 Tryz.func184 rfl (TP (v := .int .u8 _) rfl) (TP (v := .int .i64 _) rfl) ?_
   rw [esc_mark (by omega) (by omega)]
   exact ⟨rfl, hst.pure⟩
 refine SR <| MS rfl <| CN <| Op1.indexS ty9 rfl rfl (by omega) (by omega) <| CN <| Op1.eql rfl rfl <| MB rfl <| RunL.splitD (d := 22) rfl (fun g4 => ?_) (fun g4 => ?_)
 · skip
   refine TK (t := 22) rfl (congrArg Value.bool (decide_eq_true g4)) <| Op1.move (v := str _) rfl <| TK (t := 22) rfl (congrArg Value.bool (decide_eq_true g4)) <| Op1.lenS (rest := []) ty9 rfl <| TK (t := 22) rfl (congrArg Value.bool (decide_eq_true g4)) <| Op1.geq rfl rfl <| CN <| Op1.pickT (u := .bool _) (congrArg Value.bool (decide_eq_true g4)) rfl <| AB rfl <| NL <| Run.forget [(0, str _), (18, .bool _)] ⟨rfl, rfl, trivial⟩ fun f => run_cond_dec rfl (fun g5 => ?_) (fun g5 => ?_)
   · skip
     refine SR <| MS rfl <| CN <| Op1.sliceTo ty9 rfl rfl (by omega) (by omega) <| CN <| Op1.addS rfl rfl (by first | omega | (simp only [List.length_cons, List.length_nil, List.length_append]; omega) | (simp; omega)) <| CN <| Op1.call1 (v1 := str _) ent40 rfl rfl <| Ret.det (R7lx_lNumber _ _ (hst.hD _ (.head _)) (by simp only [List.length_append, List.length_take, List.length_singleton]; omega)) hst fun w hst => CN <| Op1.move (v := .tuple #[.int .u32 _, .int .i64 _]) rfl <| CN <| Op1.extract (v := .int .u32 _) rfl rfl <| CN <| Op1.extract (v := .int .i64 _) rfl rfl <| AU rfl <| AI rfl <| NSR <| MI rfl ?_
     refine CN <| Op1.eql rfl rfl <| NL <| run_cond_dec rfl (fun g6 => ?_) (fun g6 => ?_)
     · skip
       have hq0 : (numLx ([48] ++ s.take ((3 : Int).toNat))) = numLx ([48] ++ s.take 3) := rfl
       have hn0 : (numLx ([48] ++ s.take 3)).2 = 0 := by have := g6; omega
       have heb := (esc_hex (r := s) (by omega) (by omega) hn0).2
       have heb2 : (numLx ([48] ++ s.take ((3 : Int).toNat))).1 = (numLx ([48] ++ s.take 3)).1 := rfl
       refine SR <| MU rfl ?_
       first | refine CN (Op1.convN ty22 ty5 rfl (wrap_u8 (by omega) (by omega)) ?_) | refine CN (Op1.conv ty22 ty5 rfl ?_)
       refine AC rfl <| AI rfl <| NL <| run_ret2 Tryz.func184 rfl (TP (v := .int .u8 _) rfl) (TP (v := .int .i64 _) rfl) ?_
       have he := esc_hex (r := s) (by omega) (by omega) hn0
       rw [he.1]
       exact ⟨partV_byte he.2, hst.pure⟩
     have hq0 : (numLx ([48] ++ s.take ((3 : Int).toNat))) = numLx ([48] ++ s.take 3) := rfl
     refine run_skip <| run_inBlock <| SR <| AC rfl <| AI rfl <| NL <| run_ret2 Tryz.func184 rfl (TP (v := .int .u8 _) rfl) (TP (v := .int .i64 _) rfl) ?_
     rw [esc_noHex (r := s) (by omega) (by omega) (by omega)]
     exact ⟨rfl, hst.pure⟩
   refine run_skip <| run_inBlock <| SR <| AC rfl <| AI rfl <| NL <| run_ret2 Tryz.func184 rfl (TP (v := .int .u8 _) rfl) (TP (v := .int .i64 _) rfl) ?_
   rw [esc_no (r := s) (by omega) (by omega) (by omega)]
   exact ⟨rfl, hst.pure⟩
 refine OM (t := 22) rfl (congrArg Value.bool (decide_eq_false g4)) rfl <| OM (t := 22) rfl (congrArg Value.bool (decide_eq_false g4)) rfl <| OM (t := 22) rfl (congrArg Value.bool (decide_eq_false g4)) rfl <| CN <| Op1.pickF (u := .bool _) (congrArg Value.bool (decide_eq_false g4)) rfl <| AB rfl <| NL <| Run.forget [(0, str _), (18, .bool _)] ⟨rfl, rfl, trivial⟩ fun f => run_cond_false (congrArg Value.bool (rfl : false = _)) <| run_skip <| run_inBlock <| SR <| AC rfl <| AI rfl <| NL ?_
 refine run_ret2 Tryz.func184 rfl (TP (v := .int .u8 _) rfl) (TP (v := .int .i64 _) rfl) ?_
 rw [esc_no (r := s) (by omega) (by omega) (by omega)]
 exact ⟨rfl, hst.pure⟩
theorem R7lx_Quoted (s : Tx) (x : Int) (a : Nat) (hx : x = a) (ha : a < s.length) (w : World) (hl : s.length ≤ 1099511627776) : Ret Tryz.prog 168 #[str s, .int .i64 x] w (fun v w' => v = .tuple #[str (quoP (quoA s (a + 1))).1, .int .i64 ((quoP (quoA s (a + 1))).2 : Int)] ∧ St w NoM [] [] w') := by
 refine Ret.enter (args := [str s, .int .i64 x]) Tryz.func168 rfl rfl rfl ?_
 have hst := St.init w
 subst hx
 refine SR <| AS rfl <| AI rfl <| NSR <| AL rfl <| NSR <| MI rfl <| CN <| Op1.addN rfl rfl rfl (wrap_i64 (by omega) (by omega)) <| AI rfl <| NL ?_
 refine SQ <| run_block <| run_loop ?_
 replace hst := hst.pushNil 5 1
 refine Run.indW [(0, str _), (1, .int .i64 _)] ⟨rfl, rfl, trivial⟩ (fun (qq : Nat × Tx × Option Addr × Nat) => [(6, .slice qq.2.2.1 qq.2.1.length qq.2.2.2), (7, .int .i64 (qq.1 : Int))]) (fun (qq : Nat × Tx × Option Addr × Nat) => [Res.sl qq.2.2.1 qq.2.1.length qq.2.2.2 5 1 (qq.2.1.flatMap byC)]) (fun (qq : Nat × Tx × Option Addr × Nat) => quoI s (a + 1) qq.1 qq.2.1) (fun (qq : Nat × Tx × Option Addr × Nat) => s.length - qq.1) ((a + 1, [], none, 0)) hst (quoI_start (by omega)) ⟨rfl, rfl, trivial⟩ ?_
 intro ⟨i, b, aq, cq⟩ f w hst hJ ih1
 replace hst : St _ _ ([Res.sl aq b.length cq 5 1 (b.flatMap byC)] ++ []) _ _ := hst
 replace hJ : quoI s (a + 1) i b := hJ
 refine Run.slots (sl := [(6, .slice aq b.length cq), (7, .int .i64 (i : Int))]) ⟨rfl, rfl, trivial⟩ ?_
 have hidx : (s.getD ((i : Int).toNat) 0).toNat = (s.getD i 0).toNat := rfl
 have hj2 := hJ.2.1
 have hj3 := hJ.2.2.1
 have hj1 := hJ.1
 refine SQ <| SR <| MI rfl <| MS rfl <| CN <| Op1.lenS (rest := []) ty9 rfl <| CN <| Op1.lss rfl rfl <| NL <| run_cond_dec rfl (fun g2 => ?_) (fun g2 => ?_)
 · skip
   refine run_skip <| run_block <| SQ <| SR <| MS rfl <| MI rfl <| CN <| Op1.indexS ty9 rfl rfl (by omega) (by omega) <| CN <| Op1.eql rfl rfl <| NL <| run_cond_dec rfl (fun g3 => ?_) (fun g3 => ?_)
   · skip
     refine SR <| ML rfl <| CN <| Op1.bytesStr2 (l := b) ty38 ty5 ty9 rfl rfl (Res.rs_of_sl (hst.hL _ (.head _))) rfl <| MI rfl <| CN <| Op1.addN rfl rfl rfl (wrap_i64 (by omega) (by omega)) <| MI rfl <| CN <| Op1.subN rfl rfl rfl (wrap_i64 (by omega) (by omega)) <| AS rfl <| AI rfl <| NL <| run_ret2 Tryz.func168 rfl (TP (v := str _) rfl) (TP (v := .int .i64 _) rfl) ?_
     rw [quoI_mark hJ (by omega) (by omega)]
     unfold quoP; dsimp only
     refine ⟨?_, hst.pure⟩
     congr 3; congr 1; have hj1 := hJ.1; congr 1; omega
   refine run_skip <| SR <| MS rfl <| MI rfl <| CN <| Op1.call2 (v1 := str _) (v2 := .int .i64 _) ent205 rfl rfl rfl <| Ret.det (R7lx_Part s _ i rfl (by omega) _ (by omega)) hst fun w hst => CN <| Op1.move (v := .tuple #[.int .u8 _, .int .i64 _]) rfl <| CN <| Op1.extract (v := .int .u8 _) rfl rfl <| CN <| Op1.extract (v := .int .i64 _) rfl rfl <| AC rfl <| AI rfl <| NL <| SQ <| SQ <| RG ?_
   refine MI rfl <| CN <| Op1.eql rfl rfl <| NL <| run_cond_dec rfl (fun g4 => ?_) (fun g4 => ?_)
   · skip
     have hpn : partF (s.drop i) = none := get_none (d := (0 : UInt8)) (fun c k h => (part_pos h).1) (Int.ofNat_eq_zero.1 g4)
     refine SR <| AS rfl <| AI rfl <| NL <| run_ret2 Tryz.func168 rfl (TP (v := str _) rfl) (TP (v := .int .i64 _) rfl) ?_
     rw [quoI_none hJ (quo_none (by omega) (by omega) hpn)]
     exact ⟨rfl, hst.pure⟩
   have hpt : partF (s.drop i) = some (((partF (s.drop i)).getD (0, 0)).1, ((partF (s.drop i)).getD (0, 0)).2) := get_some (d := (0 : UInt8)) (fun e => g4 (by rw [e]; rfl))
   have hpl := part_len (by omega) hpt
   refine run_skip <| SR <| ML rfl <| MC rfl <| CN (Op1.buildSl (z0 := [.int .u8 0]) hst ty38 ty5 rfl rfl (by kernel_rfl) (.c (v := .int .u8 _) rfl (h := .nil)) fun w b36 hst => ?_)
   refine CN (Op1.append (news := byC ((partF (s.drop i)).getD (0, 0)).1) hst ty38 ty5 rfl rfl (.there (.here)) rfl rfl rfl (cells_of_obj (n := 1) (hst.objL (.head _)) _ rfl) rfl rfl (by omega) fun w ao5 cp6 hst => ?_)
   replace hst := hst.drop (.there (.here))
   refine AL rfl <| NL <| Run.forget [(0, str _), (1, .int .i64 _), (6, .slice _ _ _), (7, .int .i64 _), (9, .int .i64 _)] ⟨rfl, rfl, rfl, rfl, rfl, trivial⟩ fun f => RG <| MI rfl <| MI rfl <| CN <| Op1.addN rfl rfl rfl (wrap_i64 (by omega) (by omega)) <| AI rfl <| NL <| run_inBlock <| run_inLoop ?_
   have hI := quoI_step hJ (by omega) (by omega) hpt
   exact ih1 ((i + ((partF (s.drop i)).getD (0, 0)).2, b ++ [((partF (s.drop i)).getD (0, 0)).1], ao5, cp6)) _ w (by (try dsimp only); have := (part_len (by omega) hpt).1; omega) (by rw [List.length_append, List.flatMap_append]; exact hst) (hI) ⟨rfl, rfl, trivial⟩ ⟨(by simp only [List.length_append]; rfl), (congrArg (Value.int .i64) (by (try dsimp only); omega)), trivial⟩
 refine run_exit (id := 0) rfl <| SR <| AS rfl <| AI rfl <| NL <| run_ret2 Tryz.func168 rfl (TP (v := str _) rfl) (TP (v := .int .i64 _) rfl) ?_
 rw [quoI_none hJ (quo_end (by omega))]
 exact ⟨rfl, hst.pure⟩
end Go.SK
namespace Go.SK
open Go Go.Proofs
theorem ent184 : Enters Tryz.prog 184 := ⟨Tryz.f184, _, Tryz.func184, by kernel_rfl, rfl⟩
end Go.SK
namespace Go.SK
open Go Go.Proofs
open Go.RowKit
theorem R7lx_quoted (s : Tx) (h0 : 0 < s.length) (w : World) (hG : LxG.holds w) (hl : s.length ≤ 1099511627776) : Ret Tryz.prog 141 #[str s] w (fun v w' => v = .tuple #[str (quoP (quoA s 1)).1, .int .i64 ((quoP (quoA s 1)).2 : Int)] ∧ St w NoM [] [] w') := by
 refine Ret.enter (args := [str s]) Tryz.func141 rfl rfl rfl ?_
 have hst : St w NoM [] [LxG] w := St.init_Ds (by simp only [List.forall_mem_cons]; exact ⟨hG, fun _ h => absurd h List.not_mem_nil⟩)
 refine SR <| AS rfl <| AI rfl <| NL <| run_scope <| SR <| AL rfl <| NL <| SQ ?_
 replace hst := hst.pushNil 5 1
 refine RG <| AI rfl <| NL <| SQ <| run_label <| Run.indW [(0, str _)] ⟨rfl, trivial⟩ (fun (qq : Nat × Tx × Option Addr × Nat) => [(4, .slice qq.2.2.1 qq.2.1.length qq.2.2.2), (5, .int .i64 (qq.1 : Int))]) (fun (qq : Nat × Tx × Option Addr × Nat) => [Res.sl qq.2.2.1 qq.2.1.length qq.2.2.2 5 1 (qq.2.1.flatMap byC)]) (fun (qq : Nat × Tx × Option Addr × Nat) => quoI s 1 qq.1 qq.2.1) (fun (qq : Nat × Tx × Option Addr × Nat) => s.length - qq.1) ((1, [], none, 0)) hst (quoI_start (by omega)) ⟨rfl, rfl, trivial⟩ ?_
 intro ⟨i, b, aq, cq⟩ f w hst hJ ih1
 replace hst : St _ _ ([Res.sl aq b.length cq 5 1 (b.flatMap byC)] ++ []) _ _ := hst
 replace hJ : quoI s 1 i b := hJ
 refine Run.slots (sl := [(4, .slice aq b.length cq), (5, .int .i64 (i : Int))]) ⟨rfl, rfl, trivial⟩ ?_
 have hidx : (s.getD ((i : Int).toNat) 0).toNat = (s.getD i 0).toNat := rfl
 have hj2 := hJ.2.1
 have hj3 := hJ.2.2.1
 have hj1 := hJ.1
 refine SQ <| SR <| MI rfl <| MS rfl <| CN <| Op1.lenS (rest := []) ty9 rfl <| CN <| Op1.geq rfl rfl <| NL <| run_cond_dec rfl (fun g2 => ?_) (fun g2 => ?_)
 · skip
   refine SR <| AS rfl <| AI rfl <| NL <| run_ret2 Tryz.func141 rfl (TP (v := str _) rfl) (TP (v := .int .i64 _) rfl) ?_
   rw [quoI_none hJ (quo_end (by omega))]
   exact ⟨rfl, hst.pure⟩
 refine run_skip <| SQ <| SR <| MS rfl <| MI rfl <| CN <| Op1.indexS ty9 rfl rfl (by omega) (by omega) <| AC rfl <| NL <| run_block <| SR <| MC rfl <| CN <| Op1.eql rfl rfl <| AB rfl ?_
 refine NL <| run_cond_dec rfl (fun g3 => ?_) (fun g3 => ?_)
 · skip
   refine SR <| ML rfl <| CN <| Op1.bytesStr2 (l := b) ty38 ty5 ty9 rfl rfl (Res.rs_of_sl (hst.hL _ (.head _))) rfl <| MI rfl <| CN <| Op1.addN rfl rfl rfl (wrap_i64 (by omega) (by omega)) <| AS rfl <| AI rfl <| NL <| run_ret2 Tryz.func141 rfl (TP (v := str _) rfl) (TP (v := .int .i64 _) rfl) ?_
   rw [quoI_mark hJ (by omega) (by omega)]
   unfold quoP; dsimp only
   refine ⟨?_, hst.pure⟩
   congr 3; congr 1; have hj1 := hJ.1; congr 1; omega
 refine SR <| MC rfl <| CN <| Op1.lss rfl rfl <| MB rfl <| RunL.splitD (d := 30) rfl (fun g4 => ?_) (fun g4 => ?_)
 · skip
   refine OM (t := 30) rfl (congrArg Value.bool (decide_eq_true g4)) rfl <| OM (t := 30) rfl (congrArg Value.bool (decide_eq_true g4)) rfl <| CN <| Op1.pickT (u := .bool _) (congrArg Value.bool (decide_eq_true g4)) rfl <| AB rfl <| NL <| run_cond_true (congrArg Value.bool (rfl : true = _)) <| SR <| AS rfl <| AI rfl <| NL <| run_ret2 Tryz.func141 rfl (TP (v := str _) rfl) (TP (v := .int .i64 _) rfl) ?_
   rw [quoI_none hJ (quo_none (by omega) (by omega) (part_no1 (by omega) (by omega)))]
   exact ⟨rfl, hst.pure⟩
 refine TK (t := 30) rfl (congrArg Value.bool (decide_eq_false g4)) <| Op1.move (v := .int .u8 _) rfl <| TK (t := 30) rfl (congrArg Value.bool (decide_eq_false g4)) <| Op1.gtr rfl rfl <| CN <| Op1.pickF (u := .bool _) (congrArg Value.bool (decide_eq_false g4)) rfl <| AB rfl <| NL <| run_cond_dec rfl (fun g5 => ?_) (fun g5 => ?_)
 · skip
   refine SR <| AS rfl <| AI rfl <| NL <| run_ret2 Tryz.func141 rfl (TP (v := str _) rfl) (TP (v := .int .i64 _) rfl) ?_
   rw [quoI_none hJ (quo_none (by omega) (by omega) (part_no1 (by omega) (by omega)))]
   exact ⟨rfl, hst.pure⟩
 refine SR <| MC rfl <| CN <| Op1.eql rfl rfl <| AB rfl <| NL <| Run.forget [(0, str _), (4, .slice _ _ _), (5, .int .i64 _), (6, .int .u8 _), (34, .bool _)] ⟨rfl, rfl, rfl, rfl, rfl, trivial⟩ fun f => run_cond_dec rfl (fun g6 => ?_) (fun g6 => ?_)
 · skip
   refine SR <| MS rfl <| MI rfl <| CN <| Op1.addN rfl rfl rfl (wrap_i64 (by omega) (by omega)) <| CN <| Op1.sliceFrom ty9 rfl rfl (by omega) (by omega) <| CN <| Op1.call1 (v1 := str _) ent184 rfl rfl <| Ret.det (R7lx_escaped _ _ (hst.hD _ (.head _)) (by first | omega | (simp only [List.length_drop, List.length_take, List.length_append, List.length_cons, List.length_nil]; omega))) hst fun w hst => CN <| Op1.move (v := .tuple #[.int .u8 _, .int .i64 _]) rfl <| CN <| Op1.extract (v := .int .u8 _) rfl rfl <| CN <| Op1.extract (v := .int .i64 _) rfl rfl <| AC rfl <| AI rfl <| NL <| SQ <| SQ ?_
   refine RG <| MI rfl <| CN <| Op1.eql rfl rfl <| NL <| run_cond_dec rfl (fun g7 => ?_) (fun g7 => ?_)
   · skip
     have hpn : partF (s.drop i) = none := part_escN (by omega) (by omega) (Int.ofNat_eq_zero.1 g7)
     refine SR <| AS rfl <| AI rfl <| NL <| run_ret2 Tryz.func141 rfl (TP (v := str _) rfl) (TP (v := .int .i64 _) rfl) ?_
     rw [quoI_none hJ (quo_none (by omega) (by omega) hpn)]
     exact ⟨rfl, hst.pure⟩
   have hpt : partF (s.drop i) = some (((escF (s.drop (i + 1))).getD (0, 0)).1, ((escF (s.drop (i + 1))).getD (0, 0)).2 + 1) := part_escS (by omega) (by omega) (fun e => g7 (by rw [show ((escF (s.drop (((i : Int) + 1).toNat))).getD (0, 0)).2 = 0 from e]; rfl))
   have hpl := part_len (by omega) hpt
   have hidE : ((escF (s.drop (((i : Int) + 1).toNat))).getD (0, 0)).2 = ((escF (s.drop (i + 1))).getD (0, 0)).2 := rfl
   refine run_skip <| SR <| ML rfl <| MC rfl <| CN (Op1.buildSl (z0 := [.int .u8 0]) hst ty38 ty5 rfl rfl (by kernel_rfl) (.c (v := .int .u8 _) rfl (h := .nil)) fun w b49 hst => ?_)
   refine CN (Op1.append (news := byC ((escF (s.drop (((i : Int) + 1).toNat))).getD (0, 0)).1) hst ty38 ty5 rfl rfl (.there (.here)) rfl rfl rfl (cells_of_obj (n := 1) (hst.objL (.head _)) _ rfl) rfl rfl (by omega) fun w ao8 cp9 hst => ?_)
   replace hst := hst.drop (.there (.here))
   refine AL rfl <| NR <| MI rfl <| MI rfl <| CN <| Op1.addN rfl rfl rfl (wrap_i64 (by omega) (by omega)) <| AI rfl <| NL <| run_inBlock <| Run.forget [(0, str _), (4, .slice _ _ _), (5, .int .i64 _)] ⟨rfl, rfl, rfl, trivial⟩ fun f => SR <| MI rfl <| CN <| Op1.addN rfl rfl rfl (wrap_i64 (by omega) (by omega)) <| AI rfl ?_
   refine NL ?_
   have hI := quoI_step hJ (by omega) (by omega) hpt
   refine run_goto ?_ (SQ (run_skip (ih1 ((i + (((escF (s.drop (i + 1))).getD (0, 0)).2 + 1), b ++ [((escF (s.drop (i + 1))).getD (0, 0)).1], ao8, cp9)) _ w ((by (try dsimp only); omega)) (by rw [List.length_append, List.flatMap_append]; exact hst) (hI) ⟨rfl, trivial⟩ ⟨(by simp only [List.length_append]; rfl), (congrArg (Value.int .i64) (by (try dsimp only); omega)), trivial⟩)))
   rfl
 refine RG <| ML rfl <| MC rfl <| CN (Op1.buildSl (z0 := [.int .u8 0]) hst ty38 ty5 rfl rfl (by kernel_rfl) (.c (v := .int .u8 _) rfl (h := .nil)) fun w b18 hst => ?_)
 refine CN (Op1.append (news := byC (s.getD ((i : Int).toNat) 0)) hst ty38 ty5 rfl rfl (.there (.here)) rfl rfl rfl (cells_of_obj (n := 1) (hst.objL (.head _)) _ rfl) rfl rfl (by omega) fun w ao10 cp11 hst => ?_)
 replace hst := hst.drop (.there (.here))
 refine AL rfl <| NL <| run_inBlock <| SR <| MI rfl <| CN <| Op1.addN rfl rfl rfl (wrap_i64 (by omega) (by omega)) <| AI rfl <| NL ?_
 have hpt : partF (s.drop i) = some (s.getD i 0, 1) := part_plain (by omega) (by omega) (by omega) (by omega)
 have hI := quoI_step hJ (by omega) (by omega) hpt
 refine run_goto ?_ (SQ (run_skip (ih1 ((i + (1), b ++ [s.getD i 0], ao10, cp11)) _ w ((by (try dsimp only); omega)) (by rw [List.length_append, List.flatMap_append]; exact hst) (hI) ⟨rfl, trivial⟩ ⟨(by simp only [List.length_append]; rfl), (congrArg (Value.int .i64) (by (try dsimp only); omega)), trivial⟩)))
 rfl
end Go.SK
namespace Go.SK
open Go Go.Proofs
theorem ty72 : TyF Tryz.prog 72 (.struct (fieldsOf Tryz.prog 72)) 3 32 [.int .u8 0, str [], .int .i64 0] := TyF.of (by kernel_rfl) (by kernel_rfl)
theorem ent163 : Enters Tryz.prog 163 := ⟨Tryz.f163, _, Tryz.func163, by kernel_rfl, rfl⟩
theorem stf72 : StructF Tryz.prog 72 [(0, 1), (1, 1), (2, 1)] := ⟨fieldsOf Tryz.prog 72, by kernel_rfl, fun w => by kernel_rfl⟩
theorem ent122 : Enters Tryz.prog 122 := ⟨Tryz.f122, _, Tryz.func122, by kernel_rfl, rfl⟩
theorem ent168 : Enters Tryz.prog 168 := ⟨Tryz.f168, _, Tryz.func168, by kernel_rfl, rfl⟩
theorem ent141 : Enters Tryz.prog 141 := ⟨Tryz.f141, _, Tryz.func141, by kernel_rfl, rfl⟩
theorem ty28 : TyF Tryz.prog 28 (.struct (fieldsOf Tryz.prog 28)) 2 16 [.int .i64 0, .int .i64 0] := TyF.of (by kernel_rfl) (by kernel_rfl)
theorem ent117 : Enters Tryz.prog 117 := ⟨Tryz.f117, _, Tryz.func117, by kernel_rfl, rfl⟩
theorem ent118 : Enters Tryz.prog 118 := ⟨Tryz.f118, _, Tryz.func118, by kernel_rfl, rfl⟩
theorem ty65 : TyF Tryz.prog 65 (.slice 72) 1 24 [.slice none 0 0] := TyF.of (by kernel_rfl) (by kernel_rfl)
theorem stf28 : StructF Tryz.prog 28 [(0, 1), (1, 1)] := ⟨fieldsOf Tryz.prog 28, by kernel_rfl, fun w => by kernel_rfl⟩
theorem ent80 : Enters Tryz.prog 80 := ⟨Tryz.f80, _, Tryz.func80, by kernel_rfl, rfl⟩
theorem fld72_2 : FldF Tryz.prog 72 2 2 := FldF.of (n := 0) (by kernel_rfl)
end Go.SK
namespace Go.SK
open Go Go.Proofs
open Go.RowKit
theorem R7lx_rToken (s : Tx) (x : Int) (a : Nat) (hx : x = a) (ha : a < s.length) (w : World) (hl : s.length ≤ 1099511627776) : Ret Tryz.prog 118 #[str s, .int .i64 x] w (fun v w' => (∃ kd t m, tokF (s.drop a) = .ok (kd, t, m) ∧ v = .tuple #[.agg #[.int .u8 kd, str t, .int .i64 (a : Int)], .int .i64 ((m : Nat) : Int), .int .i64 0] ∧ St w NoM [] [] w') ∨ (∃ e kd t m, tokF (s.drop a) = .error e ∧ e ≠ 0 ∧ v = .tuple #[.agg #[.int .u8 kd, str t, .int .i64 0], .int .i64 m, .int .i64 e] ∧ St w NoM [] [] w')) := by
 refine Ret.enter (args := [str s, .int .i64 x]) Tryz.func118 rfl rfl rfl ?_
 have hst := St.init w
 subst hx
 have hidx : (s.getD ((a : Int).toNat) 0).toNat = (s.getD a 0).toNat := rfl
 have hru := runF_le (s.drop (a + 1))
 rw [List.length_drop] at hru
 refine SR <| CN <| Op1.alloc hst ty72 fun w b4 hst => AI rfl <| AI rfl <| NSR <| MS rfl <| MI rfl <| CN <| Op1.indexS ty9 rfl rfl (by omega) (by omega) <| AC rfl <| NL <| SQ <| SQ ?_
 refine RG <| MC rfl <| CN <| Op1.call1 (v1 := .int .u8 _) ent162 rfl rfl <| Ret.det (R7lx_Letter _ _) hst fun w hst => NL <| run_cond_split rfl (fun g1 => ?_) (fun g1 => ?_)
 · skip
   refine SR <| MS rfl <| MI rfl <| CN <| Op1.call2 (v1 := str _) (v2 := .int .i64 _) ent163 rfl rfl rfl <| Ret.det (R7lx_Run s _ a rfl (by omega) _ (by omega)) hst fun w hst => AS rfl <| NSR <| MS rfl <| MI rfl <| CN (Op1.buildStruct ty72 stf72 (.c (v := .int .u8 _) rfl (h := (.c (v := str _) rfl (h := (.c (v := .int .i64 _) rfl (h := .nil)))))) ?_)
   refine MS rfl <| CN <| Op1.lenS (rest := []) ty9 rfl <| CN (SO (v := .agg #[.int .u8 _, str _, .int .i64 _]) hst ty72 rfl rfl (.here) fun w hst => ?_)
   refine AI rfl <| AI rfl <| NL <| run_ret3 Tryz.func118 rfl (RV.cellA (vs := [.int .u8 _, str _, .int .i64 _]) rfl ty72 rfl rfl (cells_of_obj (n := 3) (hst.objL (.head _)) _ rfl)) (TP (v := .int .i64 _) rfl) (TP (v := .int .i64 _) rfl) ?_
   exact .inl ⟨_, _, _, tok_word g1, rfl, hst.pure⟩
 refine run_skip <| SQ <| SR <| MC rfl <| CN <| Op1.eql rfl rfl <| NL <| run_cond_dec rfl (fun g2 => ?_) (fun g2 => ?_)
 · skip
   refine SR <| MS rfl <| MI rfl <| CN <| Op1.addN rfl rfl rfl (wrap_i64 (by omega) (by omega)) <| CN <| Op1.call2 (v1 := str _) (v2 := .int .i64 _) ent163 rfl rfl rfl <| Ret.det (R7lx_Run s _ (a + 1) (by omega) (by omega) _ (by omega)) hst fun w hst => AS rfl <| NSR <| MS rfl <| CN <| Op1.call1 (v1 := str _) ent120 rfl rfl <| Ret.det (R7lx_Plain _ _ (by omega)) hst fun w hst => CN <| Op1.move (v := .tuple #[.int .u64 _, .bool _]) rfl <| CN <| Op1.extract (v := .int .u64 _) rfl rfl <| CN (Op1.extract (v := .bool _) rfl rfl ?_)
   refine CN <| Op1.assign (v := .int .u64 _) rfl <| AB rfl <| NL <| Run.forget [(1, .int .i64 _), (4, .pointer (some ⟨_, _, none⟩)), (9, str _), (11, .bool _)] ⟨rfl, rfl, rfl, rfl, trivial⟩ fun f => SQ <| SR <| MB rfl <| CN <| Op1.not rfl <| NL <| run_cond_split rfl (fun g3 => ?_) (fun g3 => ?_)
   · skip
     refine SR <| CN (Op1.buildStruct ty72 stf72 .nil ?_)
     refine CN (SO (v := .agg #[.int .u8 _, str _, .int .i64 _]) hst ty72 rfl rfl (.here) fun w hst => ?_)
     refine AI rfl <| AI rfl <| NL <| run_ret3 Tryz.func118 rfl (RV.cellA (vs := [.int .u8 _, str _, .int .i64 _]) rfl ty72 rfl rfl (cells_of_obj (n := 3) (hst.objL (.head _)) _ rfl)) (TP (v := .int .i64 _) rfl) (TP (v := .int .i64 _) rfl) ?_
     exact .inr ⟨_, _, _, _, tok_idNo (by omega) (not_t g3), by decide, rfl, hst.pure⟩
   refine run_skip <| SR <| MS rfl <| MI rfl <| CN (Op1.buildStruct ty72 stf72 (.c (v := .int .u8 _) rfl (h := (.c (v := str _) rfl (h := (.c (v := .int .i64 _) rfl (h := .nil)))))) ?_)
   refine MS rfl <| CN <| Op1.lenS (rest := []) ty9 rfl <| CN <| Op1.addN rfl rfl rfl (wrap_i64 (by omega) (by omega)) <| CN (SO (v := .agg #[.int .u8 _, str _, .int .i64 _]) hst ty72 rfl rfl (.here) fun w hst => ?_)
   refine AI rfl <| AI rfl <| NL <| run_ret3 Tryz.func118 rfl (RV.cellA (vs := [.int .u8 _, str _, .int .i64 _]) rfl ty72 rfl rfl (cells_of_obj (n := 3) (hst.objL (.head _)) _ rfl)) (TP (v := .int .i64 _) rfl) (TP (v := .int .i64 _) rfl) ?_
   exact .inl ⟨_, _, _, tok_idOk (by omega) (not_f g3), rfl, hst.pure⟩
 refine run_skip <| SQ <| SR <| MC rfl <| CN <| Op1.call1 (v1 := .int .u8 _) ent167 rfl rfl <| Ret.det (R7lx_Digit _ _) hst fun w hst => MB rfl <| RunL.split (d := 52) rfl (fun g4 => ?_) (fun g4 => ?_)
 · skip
   refine OM (t := 52) rfl (congrArg Value.bool g4) rfl <| OM (t := 52) rfl (congrArg Value.bool g4) rfl <| CN <| Op1.pickT (u := .bool _) (congrArg Value.bool g4) rfl <| NL <| run_cond_true (congrArg Value.bool (rfl : true = _)) <| SR <| MS rfl <| MI rfl <| MI rfl <| CN <| Op1.addN rfl rfl rfl (wrap_i64 (by omega) (by omega)) <| MS rfl <| MI rfl <| CN <| Op1.addN rfl rfl rfl (wrap_i64 (by omega) (by omega)) <| CN <| Op1.call2 (v1 := str _) (v2 := .int .i64 _) ent163 rfl rfl rfl <| Ret.det (R7lx_Run s _ (a + 1) (by omega) (by omega) _ (by omega)) hst fun w hst => ?_
   refine CN <| Op1.lenS (rest := []) ty9 rfl <| CN <| Op1.addN rfl rfl rfl (wrap_i64 (by omega) (by omega)) <| CN <| Op1.sliceMid ty9 rfl rfl rfl (by omega) (by omega) (by omega) <| AS rfl <| NL <| Run.forget [(1, .int .i64 _), (4, .pointer (some ⟨_, _, none⟩)), (12, str _)] ⟨rfl, rfl, rfl, trivial⟩ fun f => SR <| MS rfl <| CN <| Op1.call1 (v1 := str _) ent122 rfl rfl <| Ret.det (R7lx_Number _ _ (by first | omega | (simp only [List.length_drop, List.length_take, List.length_append, List.length_cons, List.length_nil]; omega))) hst fun w hst => CN <| Op1.move (v := .tuple #[.int .u32 _, .int .i64 _]) rfl <| CN <| Op1.extract (v := .int .u32 _) rfl rfl <| CN <| Op1.extract (v := .int .i64 _) rfl rfl <| AU rfl <| AI rfl ?_
   refine NL <| SQ <| SR <| MI rfl <| CN <| Op1.neq rfl rfl <| NL <| run_cond_dec rfl (fun g5 => ?_) (fun g5 => ?_)
   · skip
     have hta : (s.drop a).take (1 + (runF (s.drop (a + 1))).length) = (s.drop ((a : Int).toNat)).take (((a : Int) + 1 + ((runF (s.drop (a + 1))).length : Int)).toNat - (a : Int).toNat) := by congr 1; omega
     refine SR <| CN (Op1.buildStruct ty72 stf72 .nil ?_)
     refine CN (SO (v := .agg #[.int .u8 _, str _, .int .i64 _]) hst ty72 rfl rfl (.here) fun w hst => ?_)
     refine AI rfl <| AI rfl <| NL <| run_ret3 Tryz.func118 rfl (RV.cellA (vs := [.int .u8 _, str _, .int .i64 _]) rfl ty72 rfl rfl (cells_of_obj (n := 3) (hst.objL (.head _)) _ rfl)) (TP (v := .int .i64 _) rfl) (TP (v := .int .i64 _) rfl) ?_
     exact .inr ⟨_, _, _, _, tok_numNo (.inl g4) hta g5, by decide, rfl, hst.pure⟩
   have hta : (s.drop a).take (1 + (runF (s.drop (a + 1))).length) = (s.drop ((a : Int).toNat)).take (((a : Int) + 1 + ((runF (s.drop (a + 1))).length : Int)).toNat - (a : Int).toNat) := by congr 1; omega
   refine run_skip <| SR <| MS rfl <| MI rfl <| CN (Op1.buildStruct ty72 stf72 (.c (v := .int .u8 _) rfl (h := (.c (v := str _) rfl (h := (.c (v := .int .i64 _) rfl (h := .nil)))))) ?_)
   refine MS rfl <| CN <| Op1.lenS (rest := []) ty9 rfl <| CN (SO (v := .agg #[.int .u8 _, str _, .int .i64 _]) hst ty72 rfl rfl (.here) fun w hst => ?_)
   refine AI rfl <| AI rfl <| NL <| run_ret3 Tryz.func118 rfl (RV.cellA (vs := [.int .u8 _, str _, .int .i64 _]) rfl ty72 rfl rfl (cells_of_obj (n := 3) (hst.objL (.head _)) _ rfl)) (TP (v := .int .i64 _) rfl) (TP (v := .int .i64 _) rfl) ?_
   exact .inl ⟨_, _, _, tok_numOk (.inl g4) hta (by omega), rfl, hst.pure⟩
 refine TK (t := 52) rfl (congrArg Value.bool g4) <| Op1.move (v := .int .u8 _) rfl <| TK (t := 52) rfl (congrArg Value.bool g4) <| Op1.eql rfl rfl <| CN <| Op1.pickF (u := .bool _) (congrArg Value.bool g4) rfl <| NL <| run_cond_dec rfl (fun g6 => ?_) (fun g6 => ?_)
 · skip
   refine SR <| MS rfl <| MI rfl <| MI rfl <| CN <| Op1.addN rfl rfl rfl (wrap_i64 (by omega) (by omega)) <| MS rfl <| MI rfl <| CN <| Op1.addN rfl rfl rfl (wrap_i64 (by omega) (by omega)) <| CN <| Op1.call2 (v1 := str _) (v2 := .int .i64 _) ent163 rfl rfl rfl <| Ret.det (R7lx_Run s _ (a + 1) (by omega) (by omega) _ (by omega)) hst fun w hst => CN <| Op1.lenS (rest := []) ty9 rfl <| CN <| Op1.addN rfl rfl rfl (wrap_i64 (by omega) (by omega)) <| CN <| Op1.sliceMid ty9 rfl rfl rfl (by omega) (by omega) (by omega) <| AS rfl <| NL ?_
   refine Run.forget [(1, .int .i64 _), (4, .pointer (some ⟨_, _, none⟩)), (12, str _)] ⟨rfl, rfl, rfl, trivial⟩ fun f => SR <| MS rfl <| CN <| Op1.call1 (v1 := str _) ent122 rfl rfl <| Ret.det (R7lx_Number _ _ (by first | omega | (simp only [List.length_drop, List.length_take, List.length_append, List.length_cons, List.length_nil]; omega))) hst fun w hst => CN <| Op1.move (v := .tuple #[.int .u32 _, .int .i64 _]) rfl <| CN <| Op1.extract (v := .int .u32 _) rfl rfl <| CN <| Op1.extract (v := .int .i64 _) rfl rfl <| AU rfl <| AI rfl <| NL <| SQ <| SR <| MI rfl ?_
   refine CN <| Op1.neq rfl rfl <| NL <| run_cond_dec rfl (fun g7 => ?_) (fun g7 => ?_)
   · skip
     have hta : (s.drop a).take (1 + (runF (s.drop (a + 1))).length) = (s.drop ((a : Int).toNat)).take (((a : Int) + 1 + ((runF (s.drop (a + 1))).length : Int)).toNat - (a : Int).toNat) := by congr 1; omega
     refine SR <| CN (Op1.buildStruct ty72 stf72 .nil ?_)
     refine CN (SO (v := .agg #[.int .u8 _, str _, .int .i64 _]) hst ty72 rfl rfl (.here) fun w hst => ?_)
     refine AI rfl <| AI rfl <| NL <| run_ret3 Tryz.func118 rfl (RV.cellA (vs := [.int .u8 _, str _, .int .i64 _]) rfl ty72 rfl rfl (cells_of_obj (n := 3) (hst.objL (.head _)) _ rfl)) (TP (v := .int .i64 _) rfl) (TP (v := .int .i64 _) rfl) ?_
     exact .inr ⟨_, _, _, _, tok_numNo (.inr (by omega)) hta g7, by decide, rfl, hst.pure⟩
   have hta : (s.drop a).take (1 + (runF (s.drop (a + 1))).length) = (s.drop ((a : Int).toNat)).take (((a : Int) + 1 + ((runF (s.drop (a + 1))).length : Int)).toNat - (a : Int).toNat) := by congr 1; omega
   refine run_skip <| SR <| MS rfl <| MI rfl <| CN (Op1.buildStruct ty72 stf72 (.c (v := .int .u8 _) rfl (h := (.c (v := str _) rfl (h := (.c (v := .int .i64 _) rfl (h := .nil)))))) ?_)
   refine MS rfl <| CN <| Op1.lenS (rest := []) ty9 rfl <| CN (SO (v := .agg #[.int .u8 _, str _, .int .i64 _]) hst ty72 rfl rfl (.here) fun w hst => ?_)
   refine AI rfl <| AI rfl <| NL <| run_ret3 Tryz.func118 rfl (RV.cellA (vs := [.int .u8 _, str _, .int .i64 _]) rfl ty72 rfl rfl (cells_of_obj (n := 3) (hst.objL (.head _)) _ rfl)) (TP (v := .int .i64 _) rfl) (TP (v := .int .i64 _) rfl) ?_
   exact .inl ⟨_, _, _, tok_numOk (.inr (by omega)) hta (by omega), rfl, hst.pure⟩
 refine run_skip <| SQ <| SR <| MC rfl <| CN <| Op1.eql rfl rfl <| NL <| Run.forget [(0, str _), (1, .int .i64 _), (4, .pointer (some ⟨_, _, none⟩)), (7, .int .u8 _), (81, .bool _)] ⟨rfl, rfl, rfl, rfl, rfl, trivial⟩ fun f => run_cond_dec rfl (fun g8 => ?_) (fun g8 => ?_)
 · skip
   refine SR <| MS rfl <| MI rfl <| CN <| Op1.call2 (v1 := str _) (v2 := .int .i64 _) ent168 rfl rfl rfl <| Ret.det (R7lx_Quoted s _ a rfl (by omega) _ (by omega)) hst fun w hst => CN <| Op1.move (v := .tuple #[str _, .int .i64 _]) rfl <| CN <| Op1.extract (v := str _) rfl rfl <| CN <| Op1.extract (v := .int .i64 _) rfl rfl <| AS rfl <| AI rfl <| NL <| SQ <| SR <| MI rfl ?_
   refine CN <| Op1.eql rfl rfl <| NL <| run_cond_dec rfl (fun g9 => ?_) (fun g9 => ?_)
   · skip
     refine SR <| CN (Op1.buildStruct ty72 stf72 .nil ?_)
     refine CN (SO (v := .agg #[.int .u8 _, str _, .int .i64 _]) hst ty72 rfl rfl (.here) fun w hst => ?_)
     refine AI rfl <| AI rfl <| NL <| run_ret3 Tryz.func118 rfl (RV.cellA (vs := [.int .u8 _, str _, .int .i64 _]) rfl ty72 rfl rfl (cells_of_obj (n := 3) (hst.objL (.head _)) _ rfl)) (TP (v := .int .i64 _) rfl) (TP (v := .int .i64 _) rfl) ?_
     exact .inr ⟨_, _, _, _, tok_strNo (by omega) (by omega), by decide, rfl, hst.pure⟩
   refine run_skip <| SR <| MS rfl <| MI rfl <| CN (Op1.buildStruct ty72 stf72 (.c (v := .int .u8 _) rfl (h := (.c (v := str _) rfl (h := (.c (v := .int .i64 _) rfl (h := .nil)))))) ?_)
   refine MI rfl <| CN (SO (v := .agg #[.int .u8 _, str _, .int .i64 _]) hst ty72 rfl rfl (.here) fun w hst => ?_)
   refine AI rfl <| AI rfl <| NL <| run_ret3 Tryz.func118 rfl (RV.cellA (vs := [.int .u8 _, str _, .int .i64 _]) rfl ty72 rfl rfl (cells_of_obj (n := 3) (hst.objL (.head _)) _ rfl)) (TP (v := .int .i64 _) rfl) (TP (v := .int .i64 _) rfl) ?_
   exact .inl ⟨_, _, _, tok_strOk (by omega) (by omega), rfl, hst.pure⟩
 refine run_skip <| SQ <| SR <| MC rfl <| CN <| Op1.eql rfl rfl <| NL <| run_cond_dec rfl (fun g10 => ?_) (fun g10 => ?_)
 · skip
   refine SR <| MI rfl <| CN (Op1.buildStruct ty72 stf72 (.c (v := .int .u8 _) rfl (h := (.c (v := str _) rfl (h := (.c (v := .int .i64 _) rfl (h := .nil)))))) ?_)
   refine CN (SO (v := .agg #[.int .u8 _, str _, .int .i64 _]) hst ty72 rfl rfl (.here) fun w hst => ?_)
   refine AI rfl <| AI rfl <| NL <| run_ret3 Tryz.func118 rfl (RV.cellA (vs := [.int .u8 _, str _, .int .i64 _]) rfl ty72 rfl rfl (cells_of_obj (n := 3) (hst.objL (.head _)) _ rfl)) (TP (v := .int .i64 _) rfl) (TP (v := .int .i64 _) rfl) ?_
   exact .inl ⟨_, _, _, tok_eq (by omega), rfl, hst.pure⟩
 refine run_skip <| SR <| CN (Op1.buildStruct ty72 stf72 .nil ?_)
 refine CN (SO (v := .agg #[.int .u8 _, str _, .int .i64 _]) hst ty72 rfl rfl (.here) fun w hst => ?_)
 refine AI rfl <| AI rfl <| NL <| run_ret3 Tryz.func118 rfl (RV.cellA (vs := [.int .u8 _, str _, .int .i64 _]) rfl ty72 rfl rfl (cells_of_obj (n := 3) (hst.objL (.head _)) _ rfl)) (TP (v := .int .i64 _) rfl) (TP (v := .int .i64 _) rfl) ?_
 exact .inr ⟨_, _, _, _, tok_bad (f_no g1) (by omega) (f_no g4) (by omega) (by omega) (by omega), by decide, rfl, hst.pure⟩
theorem R7lx_token (s : Tx) (h0 : 0 < s.length) (w : World) (hG : LxG.holds w) (hl : s.length ≤ 1099511627776) : Ret Tryz.prog 80 #[str s] w (fun v w' => (∃ kd t m, tokF s = .ok (kd, t, m) ∧ v = .tuple #[.agg #[.int .u8 kd, str t, .int .i64 0], .int .i64 ((m : Nat) : Int), .int .i64 0] ∧ St w NoM [] [] w') ∨ (∃ e kd t m, tokF s = .error e ∧ e ≠ 0 ∧ v = .tuple #[.agg #[.int .u8 kd, str t, .int .i64 0], .int .i64 m, .int .i64 e] ∧ St w NoM [] [] w')) := by
 refine Ret.enter (args := [str s]) Tryz.func80 rfl rfl rfl ?_
 have hst : St w NoM [] [LxG] w := St.init_Ds (by simp only [List.forall_mem_cons]; exact ⟨hG, fun _ h => absurd h List.not_mem_nil⟩)
 have hidx : (s.getD ((0 : Int).toNat) 0).toNat = (s.getD 0 0).toNat := rfl
 have hru := runF_le (s.drop (0 + 1))
 rw [List.length_drop] at hru
 have hru1 := runF_le (s.drop ((1 : Int).toNat))
 rw [List.length_drop] at hru1
 have h1t : (1 : Int).toNat = 1 := rfl
 have hqq : (quoP (quoA s 1)).2 = (quoP (quoA s (0 + 1))).2 := rfl
 have hrr : (runF (s.drop ((1 : Int).toNat))).length = (runF (s.drop (0 + 1))).length := rfl
 refine SR <| CN <| Op1.alloc hst ty72 fun w b2 hst => AI rfl <| AI rfl <| NSR <| MS rfl <| CN <| Op1.indexS ty9 rfl rfl (by omega) (by omega) <| AC rfl <| NL <| SQ <| run_block <| SQ ?_
 refine run_block <| run_block <| SQ <| run_block <| SQ <| run_block <| SQ <| run_block <| SQ <| run_block <| SQ <| SQ <| SR <| MC rfl ?_
 refine CN <| Op1.eql rfl rfl <| AB rfl <| NL <| run_cond_dec rfl (fun g1 => ?_) (fun g1 => ?_)
 · skip
   refine run_exit (id := 1) rfl <| SQ <| SR <| MS rfl <| CN <| Op1.call1 (v1 := str _) ent141 rfl rfl <| Ret.det (R7lx_quoted _ (by omega) _ (hst.hD _ (.head _)) (by first | omega | (simp only [List.length_drop, List.length_take, List.length_append, List.length_cons, List.length_nil]; omega))) hst fun w hst => CN <| Op1.move (v := .tuple #[str _, .int .i64 _]) rfl <| CN <| Op1.extract (v := str _) rfl rfl <| CN <| Op1.extract (v := .int .i64 _) rfl rfl <| AS rfl <| AI rfl <| NL <| SQ <| SQ <| RG ?_
   refine MI rfl <| CN <| Op1.eql rfl rfl <| NL <| run_cond_dec rfl (fun g2 => ?_) (fun g2 => ?_)
   · skip
     refine SR <| CN (Op1.buildStruct ty72 stf72 .nil ?_)
     refine CN (SO (v := .agg #[.int .u8 _, str _, .int .i64 _]) hst ty72 rfl rfl (.here) fun w hst => ?_)
     refine AI rfl <| AI rfl <| NL <| run_ret3 Tryz.func80 rfl (RV.cellA (vs := [.int .u8 _, str _, .int .i64 _]) rfl ty72 rfl rfl (cells_of_obj (n := 3) (hst.objL (.head _)) _ rfl)) (TP (v := .int .i64 _) rfl) (TP (v := .int .i64 _) rfl) ?_
     exact .inr ⟨_, _, _, _, tok_strNo (a := 0) (by omega) (by omega), by decide, rfl, hst.pure⟩
   refine run_skip <| SR <| MS rfl <| CN (Op1.buildStruct ty72 stf72 (.c (v := .int .u8 _) rfl (h := (.c (v := str _) rfl (h := .nil)))) ?_)
   refine MI rfl <| CN (SO (v := .agg #[.int .u8 _, str _, .int .i64 _]) hst ty72 rfl rfl (.here) fun w hst => ?_)
   refine AI rfl <| AI rfl <| NL <| run_ret3 Tryz.func80 rfl (RV.cellA (vs := [.int .u8 _, str _, .int .i64 _]) rfl ty72 rfl rfl (cells_of_obj (n := 3) (hst.objL (.head _)) _ rfl)) (TP (v := .int .i64 _) rfl) (TP (v := .int .i64 _) rfl) ?_
   exact .inl ⟨_, _, _, tok_strOk (a := 0) (by omega) (by omega), rfl, hst.pure⟩
 refine run_skip <| SQ <| SR <| MC rfl <| CN <| Op1.eql rfl rfl <| AB rfl <| NL <| run_cond_dec rfl (fun g3 => ?_) (fun g3 => ?_)
 · skip
   refine run_exit (id := 2) rfl <| SQ <| SR <| CN (Op1.buildStruct ty72 stf72 (.c (v := .int .u8 _) rfl (h := (.c (v := str _) rfl (h := .nil)))) ?_)
   refine CN (SO (v := .agg #[.int .u8 _, str _, .int .i64 _]) hst ty72 rfl rfl (.here) fun w hst => ?_)
   refine AI rfl <| AI rfl <| NL <| run_ret3 Tryz.func80 rfl (RV.cellA (vs := [.int .u8 _, str _, .int .i64 _]) rfl ty72 rfl rfl (cells_of_obj (n := 3) (hst.objL (.head _)) _ rfl)) (TP (v := .int .i64 _) rfl) (TP (v := .int .i64 _) rfl) ?_
   exact .inl ⟨_, _, _, tok_eq (a := 0) (by omega), rfl, hst.pure⟩
 refine run_skip <| SQ <| SR <| MC rfl <| CN <| Op1.eql rfl rfl <| AB rfl <| NL <| run_cond_dec rfl (fun g4 => ?_) (fun g4 => ?_)
 · skip
   refine run_exit (id := 3) rfl <| SQ <| SR <| MS rfl <| CN <| Op1.sliceFrom ty9 rfl rfl (by omega) (by omega) <| CN <| Op1.call1 (v1 := str _) ent85 rfl rfl <| Ret.det (R7lx_run _ _ (by first | omega | (simp only [List.length_drop]; omega))) hst fun w hst => AS rfl <| NL <| Run.forget [(2, .pointer (some ⟨_, _, none⟩)), (8, str _)] ⟨rfl, rfl, trivial⟩ fun f => SQ <| SR <| MS rfl <| CN <| Op1.call1 (v1 := str _) ent83 rfl rfl <| Ret.det (R7lx_plain _ _ (hst.hD _ (.head _)) (by first | omega | (simp only [List.length_drop, List.length_take, List.length_append, List.length_cons, List.length_nil]; omega))) hst fun w hst => ?_
   refine CN <| Op1.move (v := .tuple #[.int .u32 _, .bool _]) rfl <| CN <| Op1.extract (v := .int .u32 _) rfl rfl <| CN <| Op1.extract (v := .bool _) rfl rfl <| AU rfl <| AB rfl <| NSR <| MB rfl <| CN <| Op1.not rfl <| NL <| run_cond_split rfl (fun g5 => ?_) (fun g5 => ?_)
   · skip
     refine SR <| CN (Op1.buildStruct ty72 stf72 .nil ?_)
     refine CN (SO (v := .agg #[.int .u8 _, str _, .int .i64 _]) hst ty72 rfl rfl (.here) fun w hst => ?_)
     refine AI rfl <| AI rfl <| NL <| run_ret3 Tryz.func80 rfl (RV.cellA (vs := [.int .u8 _, str _, .int .i64 _]) rfl ty72 rfl rfl (cells_of_obj (n := 3) (hst.objL (.head _)) _ rfl)) (TP (v := .int .i64 _) rfl) (TP (v := .int .i64 _) rfl) ?_
     exact .inr ⟨_, _, _, _, tok_idNo (a := 0) (by omega) (not_t g5), by decide, rfl, hst.pure⟩
   refine run_skip <| SR <| MS rfl <| CN (Op1.buildStruct ty72 stf72 (.c (v := .int .u8 _) rfl (h := (.c (v := str _) rfl (h := .nil)))) ?_)
   refine MS rfl <| CN <| Op1.lenS (rest := []) ty9 rfl <| CN <| Op1.addN rfl rfl rfl (wrap_i64 (by omega) (by omega)) <| CN (SO (v := .agg #[.int .u8 _, str _, .int .i64 _]) hst ty72 rfl rfl (.here) fun w hst => ?_)
   refine AI rfl <| AI rfl <| NL <| run_ret3 Tryz.func80 rfl (RV.cellA (vs := [.int .u8 _, str _, .int .i64 _]) rfl ty72 rfl rfl (cells_of_obj (n := 3) (hst.objL (.head _)) _ rfl)) (TP (v := .int .i64 _) rfl) (TP (v := .int .i64 _) rfl) ?_
   exact .inl ⟨_, _, _, tok_idOk (a := 0) (by omega) (not_f g5), by rw [show (1 : Int) + ((runF (s.drop ((1 : Int).toNat))).length : Int) = (((runF (s.drop (0 + 1))).length + 1 : Nat) : Int) by omega]; rfl, hst.pure⟩
 refine run_skip <| SQ <| SR <| MC rfl <| CN <| Op1.call1 (v1 := .int .u8 _) ent79 rfl rfl <| Ret.det (R7lx_kindOf _ _) hst fun w hst => CN <| Op1.eql rfl rfl <| AB rfl <| NL <| Run.forget [(0, str _), (2, .pointer (some ⟨_, _, none⟩)), (5, .int .u8 _), (26, .bool _)] ⟨rfl, rfl, rfl, rfl, trivial⟩ fun f => run_cond_dec rfl (fun g6 => ?_) (fun g6 => ?_)
 · skip
   refine run_exit (id := 4) rfl <| SQ <| SR <| MS rfl <| CN <| Op1.call1 (v1 := str _) ent85 rfl rfl <| Ret.det (R7lx_run _ _ (by first | omega | (simp only [List.length_drop]; omega))) hst fun w hst => AS rfl <| NSR <| MS rfl <| CN (Op1.buildStruct ty72 stf72 (.c (v := .int .u8 _) rfl (h := (.c (v := str _) rfl (h := .nil)))) ?_)
   refine MS rfl <| CN <| Op1.lenS (rest := []) ty9 rfl <| CN (SO (v := .agg #[.int .u8 _, str _, .int .i64 _]) hst ty72 rfl rfl (.here) fun w hst => ?_)
   refine AI rfl <| AI rfl <| NL <| run_ret3 Tryz.func80 rfl (RV.cellA (vs := [.int .u8 _, str _, .int .i64 _]) rfl ty72 rfl rfl (cells_of_obj (n := 3) (hst.objL (.head _)) _ rfl)) (TP (v := .int .i64 _) rfl) (TP (v := .int .i64 _) rfl) ?_
   exact .inl ⟨_, _, _, tok_word (a := 0) ((kind_let _).1 g6), rfl, hst.pure⟩
 refine run_skip <| SQ <| SR <| MC rfl <| CN <| Op1.eql rfl rfl <| AB rfl <| NL <| run_cond_dec rfl (fun g7 => ?_) (fun g7 => ?_)
 · skip
   refine run_exit (id := 5) rfl <| run_inBlock <| SQ <| SR <| MS rfl <| MS rfl <| CN <| Op1.sliceFrom ty9 rfl rfl (by omega) (by omega) <| CN <| Op1.call1 (v1 := str _) ent85 rfl rfl <| Ret.det (R7lx_run _ _ (by first | omega | (simp only [List.length_drop]; omega))) hst fun w hst => CN <| Op1.lenS (rest := []) ty9 rfl <| CN <| Op1.addN rfl rfl rfl (wrap_i64 (by omega) (by omega)) <| CN <| Op1.sliceTo ty9 rfl rfl (by omega) (by omega) <| AS rfl <| NL <| SQ ?_
   refine RG <| MS rfl <| CN <| Op1.call1 (v1 := str _) ent40 rfl rfl <| Ret.det (R7lx_lNumber _ _ (hst.hD _ (.head _)) (by first | omega | (simp only [List.length_drop, List.length_take, List.length_append, List.length_cons, List.length_nil]; omega))) hst fun w hst => CN <| Op1.move (v := .tuple #[.int .u32 _, .int .i64 _]) rfl <| CN <| Op1.extract (v := .int .u32 _) rfl rfl <| CN <| Op1.extract (v := .int .i64 _) rfl rfl <| AU rfl <| AI rfl <| NSR <| MS rfl <| CN (Op1.buildStruct ty72 stf72 (.c (v := .int .u8 _) rfl (h := (.c (v := str _) rfl (h := .nil)))) ?_)
   refine MS rfl <| CN <| Op1.lenS (rest := []) ty9 rfl <| MI rfl <| CN (SO (v := .agg #[.int .u8 _, str _, .int .i64 _]) hst ty72 rfl rfl (.here) fun w hst => ?_)
   refine AI rfl <| AI rfl <| NL <| run_ret3 Tryz.func80 rfl (RV.cellA (vs := [.int .u8 _, str _, .int .i64 _]) rfl ty72 rfl rfl (cells_of_obj (n := 3) (hst.objL (.head _)) _ rfl)) (TP (v := .int .i64 _) rfl) (TP (v := .int .i64 _) rfl) ?_
   have hta : (s.drop 0).take (1 + (runF (s.drop (0 + 1))).length) = s.take ((1 + ((runF (s.drop (0 + 1))).length : Int)).toNat) := by rw [List.drop_zero, show (1 + ((runF (s.drop (0 + 1))).length : Int)).toNat = 1 + (runF (s.drop (0 + 1))).length by omega]
   by_cases hz : (numLx (s.take ((1 + ((runF (s.drop (0 + 1))).length : Int)).toNat))).2 = 0
   · rw [show (numLx (s.take ((1 + ((runF (s.drop ((1 : Int).toNat))).length : Int)).toNat))).2 = 0 from hz]
     exact .inl ⟨_, _, _, tok_numOk (a := 0) (.inr (by omega)) hta hz, rfl, hst.pure⟩
   · have h62 := (numF_err (s.take ((1 + ((runF (s.drop (0 + 1))).length : Int)).toNat))).resolve_left hz
     rw [show (numLx (s.take ((1 + ((runF (s.drop ((1 : Int).toNat))).length : Int)).toNat))).2 = 62 from h62]
     exact .inr ⟨_, _, _, _, tok_numNo (a := 0) (.inr (by omega)) hta hz, by decide, rfl, hst.pure⟩
 refine run_skip <| SR <| MC rfl <| CN <| Op1.call1 (v1 := .int .u8 _) ent79 rfl rfl <| Ret.det (R7lx_kindOf _ _) hst fun w hst => CN <| Op1.eql rfl rfl <| AB rfl <| NL <| run_cond_dec rfl (fun g8 => ?_) (fun g8 => ?_)
 · skip
   refine run_exit (id := 6) rfl <| SQ <| SR <| MS rfl <| MS rfl <| CN <| Op1.sliceFrom ty9 rfl rfl (by omega) (by omega) <| CN <| Op1.call1 (v1 := str _) ent85 rfl rfl <| Ret.det (R7lx_run _ _ (by first | omega | (simp only [List.length_drop]; omega))) hst fun w hst => CN <| Op1.lenS (rest := []) ty9 rfl <| CN <| Op1.addN rfl rfl rfl (wrap_i64 (by omega) (by omega)) <| CN <| Op1.sliceTo ty9 rfl rfl (by omega) (by omega) <| AS rfl <| NL <| SQ <| RG ?_
   refine MS rfl <| CN <| Op1.call1 (v1 := str _) ent40 rfl rfl <| Ret.det (R7lx_lNumber _ _ (hst.hD _ (.head _)) (by first | omega | (simp only [List.length_drop, List.length_take, List.length_append, List.length_cons, List.length_nil]; omega))) hst fun w hst => CN <| Op1.move (v := .tuple #[.int .u32 _, .int .i64 _]) rfl <| CN <| Op1.extract (v := .int .u32 _) rfl rfl <| CN <| Op1.extract (v := .int .i64 _) rfl rfl <| AU rfl <| AI rfl <| NL <| Run.forget [(2, .pointer (some ⟨_, _, none⟩)), (12, str _), (14, .int .i64 _)] ⟨rfl, rfl, rfl, trivial⟩ fun f => SR <| MS rfl <| CN (Op1.buildStruct ty72 stf72 (.c (v := .int .u8 _) rfl (h := (.c (v := str _) rfl (h := .nil)))) ?_)
   refine MS rfl <| CN <| Op1.lenS (rest := []) ty9 rfl <| MI rfl <| CN (SO (v := .agg #[.int .u8 _, str _, .int .i64 _]) hst ty72 rfl rfl (.here) fun w hst => ?_)
   refine AI rfl <| AI rfl <| NL <| run_ret3 Tryz.func80 rfl (RV.cellA (vs := [.int .u8 _, str _, .int .i64 _]) rfl ty72 rfl rfl (cells_of_obj (n := 3) (hst.objL (.head _)) _ rfl)) (TP (v := .int .i64 _) rfl) (TP (v := .int .i64 _) rfl) ?_
   have hta : (s.drop 0).take (1 + (runF (s.drop (0 + 1))).length) = s.take ((1 + ((runF (s.drop (0 + 1))).length : Int)).toNat) := by rw [List.drop_zero, show (1 + ((runF (s.drop (0 + 1))).length : Int)).toNat = 1 + (runF (s.drop (0 + 1))).length by omega]
   by_cases hz : (numLx (s.take ((1 + ((runF (s.drop (0 + 1))).length : Int)).toNat))).2 = 0
   · rw [show (numLx (s.take ((1 + ((runF (s.drop ((1 : Int).toNat))).length : Int)).toNat))).2 = 0 from hz]
     exact .inl ⟨_, _, _, tok_numOk (a := 0) (.inl ((kind_dig _).1 g8)) hta hz, rfl, hst.pure⟩
   · have h62 := (numF_err (s.take ((1 + ((runF (s.drop (0 + 1))).length : Int)).toNat))).resolve_left hz
     rw [show (numLx (s.take ((1 + ((runF (s.drop ((1 : Int).toNat))).length : Int)).toNat))).2 = 62 from h62]
     exact .inr ⟨_, _, _, _, tok_numNo (a := 0) (.inl ((kind_dig _).1 g8)) hta hz, by decide, rfl, hst.pure⟩
 refine run_skip <| run_exit (id := 0) rfl <| SR <| CN (Op1.buildStruct ty72 stf72 .nil ?_)
 refine CN (SO (v := .agg #[.int .u8 _, str _, .int .i64 _]) hst ty72 rfl rfl (.here) fun w hst => ?_)
 refine AI rfl <| AI rfl <| NL <| run_ret3 Tryz.func80 rfl (RV.cellA (vs := [.int .u8 _, str _, .int .i64 _]) rfl ty72 rfl rfl (cells_of_obj (n := 3) (hst.objL (.head _)) _ rfl)) (TP (v := .int .i64 _) rfl) (TP (v := .int .i64 _) rfl) ?_
 exact .inr ⟨_, _, _, _, tok_bad (a := 0) (fun q => g6 ((kind_let _).2 q)) (by omega) (fun q => g8 ((kind_dig _).2 q)) (by omega) (by omega) (by omega), by decide, rfl, hst.pure⟩
theorem R7lx_rTokens (s : Tx) (w : World) (hl : s.length ≤ 1099511627776) : Ret Tryz.prog 64 #[str s] w (fun v w' => ∃ ao cp, v = .tuple #[.slice ao (toksF s).1.length cp, .agg #[.int .i64 (toksF s).2.1, .int .i64 (toksF s).2.2]] ∧ St w NoM [Res.sl ao (toksF s).1.length cp 72 3 ((toksF s).1.flatMap tokC)] [] w') := by
 refine Ret.enter (args := [str s]) Tryz.func64 rfl rfl rfl ?_
 have hst := St.init w
 refine SR <| AL rfl <| CN <| Op1.alloc hst ty28 fun w b3 hst => NSR <| AL rfl <| NSR <| AI rfl <| NL <| SQ <| run_block ?_
 refine run_loop ?_
 replace hst := hst.pushNil 72 3
 refine Run.indW [(0, str _), (3, .pointer (some ⟨_, _, none⟩))] ⟨rfl, rfl, trivial⟩ (fun (qq : Nat × List TokL × Option Addr × Nat) => [(4, .slice qq.2.2.1 qq.2.1.length qq.2.2.2), (5, .int .i64 (qq.1 : Int))]) (fun (qq : Nat × List TokL × Option Addr × Nat) => [Res.sl qq.2.2.1 qq.2.1.length qq.2.2.2 72 3 (qq.2.1.flatMap tokC)]) (fun (qq : Nat × List TokL × Option Addr × Nat) => toksI s qq.1 qq.2.1) (fun (qq : Nat × List TokL × Option Addr × Nat) => s.length - qq.1) ((0, [], none, 0)) hst (toksI_start s) ⟨rfl, rfl, trivial⟩ ?_
 intro ⟨i, l, aq, cq⟩ f w hst hJ ih1
 replace hst : St _ _ ([Res.sl aq l.length cq 72 3 (l.flatMap tokC)] ++ [_]) _ _ := hst
 replace hJ : toksI s i l := hJ
 refine Run.slots (sl := [(4, .slice aq l.length cq), (5, .int .i64 (i : Int))]) ⟨rfl, rfl, trivial⟩ ?_
 have hidx : (s.getD ((i : Int).toNat) 0).toNat = (s.getD i 0).toNat := rfl
 have hj2 := hJ.2.1
 have hj1 := hJ.1
 refine SQ <| SR <| MI rfl <| MS rfl <| CN <| Op1.lenS (rest := []) ty9 rfl <| CN <| Op1.lss rfl rfl <| MB rfl <| RunL.splitD (d := 13) rfl (fun g2 => ?_) (fun g2 => ?_)
 · skip
   refine TK (t := 13) rfl (congrArg Value.bool (decide_eq_true g2)) <| Op1.move (v := str _) rfl <| TK (t := 13) rfl (congrArg Value.bool (decide_eq_true g2)) <| Op1.move (v := .int .i64 _) rfl <| TK (t := 13) rfl (congrArg Value.bool (decide_eq_true g2)) <| Op1.indexS ty9 rfl rfl (by omega) (by omega) <| TK (t := 13) rfl (congrArg Value.bool (decide_eq_true g2)) <| Op1.neq rfl rfl <| CN <| Op1.pickT (u := .bool _) (congrArg Value.bool (decide_eq_true g2)) rfl <| NL <| run_cond_dec rfl (fun g3 => ?_) (fun g3 => ?_)
   · skip
     refine run_skip <| run_block <| SQ <| SR <| MS rfl <| MI rfl <| CN <| Op1.indexS ty9 rfl rfl (by omega) (by omega) <| CN <| Op1.call1 (v1 := .int .u8 _) ent117 rfl rfl <| Ret.det (R7lx_Blank _ _) hst fun w hst => NL <| run_cond_split rfl (fun g4 => ?_) (fun g4 => ?_)
     · skip
       refine SR <| MI rfl <| CN <| Op1.addN rfl rfl rfl (wrap_i64 (by omega) (by omega)) <| AI rfl <| NL <| run_exit (id := 1) rfl <| run_inLoop ?_
       have hI := toksI_blank hJ (by omega) (by omega) g4
       exact ih1 ((i + 1, l, aq, cq)) _ w ((by (try dsimp only); omega)) hst (hI) ⟨rfl, rfl, trivial⟩ ⟨rfl, (congrArg (Value.int .i64) (by (try dsimp only); omega)), trivial⟩
     refine run_skip <| SR <| MS rfl <| MI rfl <| CN (Op1.call2 (v1 := str _) (v2 := .int .i64 _) ent118 rfl rfl rfl ((R7lx_rToken s _ i rfl (by omega) _ hl).mono fun v w hp => ?_))
     rcases hp with ⟨kd, t, m, htk, rfl, hp⟩ | ⟨e, kd, t, m, htk, hne, rfl, hp⟩
     · skip
       replace hst := hst.keepc hp
       clear hp
       have hm := tokF_len (by rw [List.length_drop]; omega) htk
       rw [List.length_drop] at hm
       refine CN <| Op1.move (v := .tuple #[.agg #[.int .u8 _, str _, .int .i64 _], .int .i64 _, .int .i64 _]) rfl <| CN <| Op1.extract (v := .agg #[.int .u8 _, str _, .int .i64 _]) rfl rfl <| CN <| Op1.extract (v := .int .i64 _) rfl rfl <| CN <| Op1.extract (v := .int .i64 _) rfl rfl <| CN <| Op1.alloc hst ty72 fun w b6 hst => CN (SO (v := .agg #[.int .u8 _, str _, .int .i64 _]) hst ty72 rfl rfl (.here) fun w hst => ?_)
       refine AI rfl <| AI rfl <| NL <| Run.forget [(0, str _), (3, .pointer (some ⟨_, _, none⟩)), (4, .slice _ _ _), (5, .int .i64 _), (6, .pointer (some ⟨_, _, none⟩)), (7, .int .i64 _), (8, .int .i64 _)] ⟨rfl, rfl, rfl, rfl, rfl, rfl, rfl, trivial⟩ fun f => SQ <| SR <| MI rfl <| CN <| Op1.neq rfl rfl <| NL <| run_cond_dec rfl (fun g5 => ?_) (fun g5 => ?_)
       · skip
         exfalso
         exact g5 rfl
       refine run_skip <| SR <| ML rfl <| CN <| Op1.loadA (vs := [.int .u8 _, str _, .int .i64 _]) ty72 rfl rfl rfl (cells_of_obj (n := 3) (hst.objL (.head _)) _ rfl) <| CN (Op1.buildSl (z0 := [.int .u8 0, str [], .int .i64 0]) hst ty65 ty72 rfl rfl (by kernel_rfl) (.c (v := .agg #[.int .u8 _, str _, .int .i64 _]) rfl (h := .nil)) fun w b39 hst => ?_)
       refine CN (Op1.append (news := tokC ⟨kd, t, (i : Int)⟩) hst ty65 ty72 rfl rfl (.there (.there (.here))) rfl rfl rfl (cells_of_obj (n := 3) (hst.objL (.head _)) _ rfl) rfl rfl (by omega) fun w ao6 cp7 hst => ?_)
       replace hst := hst.drop (.there (.here))
       refine AL rfl <| NR <| MI rfl <| MI rfl <| CN <| Op1.addN rfl rfl rfl (wrap_i64 (by omega) (by omega)) <| AI rfl <| NL <| run_inBlock <| run_inLoop ?_
       have hI := toksI_ok hJ (by omega) (by omega) (f_no g4) htk
       replace hst := hst.pick (.cons (.here) (.cons (.there (.here)) .nil))
       exact ih1 ((i + m, l ++ [⟨kd, t, (i : Int)⟩], ao6, cp7)) _ w ((by (try dsimp only); omega)) (by rw [List.length_append, List.flatMap_append]; exact hst) (hI) ⟨rfl, rfl, trivial⟩ ⟨(by simp only [List.length_append]; rfl), (congrArg (Value.int .i64) (by (try dsimp only); omega)), trivial⟩
     · skip
       replace hst := hst.keepc hp
       clear hp
       refine CN <| Op1.move (v := .tuple #[.agg #[.int .u8 _, str _, .int .i64 _], .int .i64 _, .int .i64 _]) rfl <| CN <| Op1.extract (v := .agg #[.int .u8 _, str _, .int .i64 _]) rfl rfl <| CN <| Op1.extract (v := .int .i64 _) rfl rfl <| CN <| Op1.extract (v := .int .i64 _) rfl rfl <| CN <| Op1.alloc hst ty72 fun w b6 hst => CN (SO (v := .agg #[.int .u8 _, str _, .int .i64 _]) hst ty72 rfl rfl (.here) fun w hst => ?_)
       refine AI rfl <| AI rfl <| NL <| Run.forget [(0, str _), (3, .pointer (some ⟨_, _, none⟩)), (4, .slice _ _ _), (5, .int .i64 _), (6, .pointer (some ⟨_, _, none⟩)), (7, .int .i64 _), (8, .int .i64 _)] ⟨rfl, rfl, rfl, rfl, rfl, rfl, rfl, trivial⟩ fun f => SQ <| SR <| MI rfl <| CN <| Op1.neq rfl rfl <| NL <| run_cond_dec rfl (fun g8 => ?_) (fun g8 => ?_)
       · skip
         refine SR <| MI rfl <| MI rfl <| CN (Op1.buildStruct ty28 stf28 (.c (v := .int .i64 _) rfl (h := (.c (v := .int .i64 _) rfl (h := .nil)))) ?_)
         refine AL rfl <| CN (SO (v := .agg #[.int .i64 _, .int .i64 _]) hst ty28 rfl rfl (.there (.there (.here))) fun w hst => ?_)
         refine NL <| run_ret2 Tryz.func64 rfl (TP (v := .slice _ _ _) rfl) (RV.cellA (vs := [.int .i64 _, .int .i64 _]) rfl ty28 rfl rfl (cells_of_obj (n := 2) (hst.objL (.tail _ (.tail _ (.head _)))) _ rfl)) ?_
         rw [toksI_err hJ (by omega) (by omega) (f_no g4) htk]
         replace hst := hst.pushNil 72 3
         replace hst := hst.pick (.cons (.here) .nil)
         exact ⟨none, 0, rfl, hst.noD⟩
       exfalso
       exact g8 hne
   refine run_exit (id := 0) rfl <| SR <| ML rfl <| CN (Op1.buildStruct ty28 stf28 .nil ?_)
   refine AL rfl <| CN (SO (v := .agg #[.int .i64 _, .int .i64 _]) hst ty28 rfl rfl (.there (.here)) fun w hst => ?_)
   refine NL <| run_ret2 Tryz.func64 rfl (TP (v := .slice _ _ _) rfl) (RV.cellA (vs := [.int .i64 _, .int .i64 _]) rfl ty28 rfl rfl (cells_of_obj (n := 2) (hst.objL (.tail _ (.head _))) _ rfl)) ?_
   rw [toksI_end hJ (by omega)]
   replace hst := hst.pick (.cons (.here) .nil)
   exact ⟨aq, cq, rfl, hst.noD⟩
 refine OM (t := 13) rfl (congrArg Value.bool (decide_eq_false g2)) rfl <| OM (t := 13) rfl (congrArg Value.bool (decide_eq_false g2)) rfl <| OM (t := 13) rfl (congrArg Value.bool (decide_eq_false g2)) rfl <| OM (t := 13) rfl (congrArg Value.bool (decide_eq_false g2)) rfl <| CN <| Op1.pickF (u := .bool _) (congrArg Value.bool (decide_eq_false g2)) rfl <| NL <| run_cond_false (congrArg Value.bool (rfl : false = _)) <| run_exit (id := 0) rfl <| SR <| ML rfl <| CN (Op1.buildStruct ty28 stf28 .nil ?_)
 refine AL rfl <| CN (SO (v := .agg #[.int .i64 _, .int .i64 _]) hst ty28 rfl rfl (.there (.here)) fun w hst => ?_)
 refine NL <| run_ret2 Tryz.func64 rfl (TP (v := .slice _ _ _) rfl) (RV.cellA (vs := [.int .i64 _, .int .i64 _]) rfl ty28 rfl rfl (cells_of_obj (n := 2) (hst.objL (.tail _ (.head _))) _ rfl)) ?_
 rw [toksI_end hJ (by omega)]
 replace hst := hst.pick (.cons (.here) .nil)
 exact ⟨aq, cq, rfl, hst.noD⟩
theorem R7lx_lTokens (s : Tx) (w : World) (hG : LxG.holds w) (hl : s.length ≤ 1099511627776) : Ret Tryz.prog 38 #[str s] w (fun v w' => ∃ ao cp, v = .tuple #[.slice ao (toksF s).1.length cp, .agg #[.int .i64 (toksF s).2.1, .int .i64 (toksF s).2.2]] ∧ St w NoM [Res.sl ao (toksF s).1.length cp 72 3 ((toksF s).1.flatMap tokC)] [] w') := by
 refine Ret.enter (args := [str s]) Tryz.func38 rfl rfl rfl ?_
 have hst : St w NoM [] [LxG] w := St.init_Ds (by simp only [List.forall_mem_cons]; exact ⟨hG, fun _ h => absurd h List.not_mem_nil⟩)
 refine SR <| AL rfl <| CN <| Op1.alloc hst ty28 fun w b3 hst => NL <| run_scope <| SR <| AL rfl <| NL <| SQ <| run_label <| SQ <| SQ <| RG ?_
 refine AI rfl <| NL <| run_block <| run_loop ?_
 replace hst := hst.pushNil 72 3
 refine Run.indW [(0, str _), (3, .pointer (some ⟨_, _, none⟩))] ⟨rfl, rfl, trivial⟩ (fun (qq : Nat × List TokL × Option Addr × Nat) => [(4, .slice qq.2.2.1 qq.2.1.length qq.2.2.2), (5, .int .i64 (qq.1 : Int))]) (fun (qq : Nat × List TokL × Option Addr × Nat) => [Res.sl qq.2.2.1 qq.2.1.length qq.2.2.2 72 3 (qq.2.1.flatMap tokC)]) (fun (qq : Nat × List TokL × Option Addr × Nat) => toksI s qq.1 qq.2.1) (fun (qq : Nat × List TokL × Option Addr × Nat) => s.length - qq.1) ((0, [], none, 0)) hst (toksI_start s) ⟨rfl, rfl, trivial⟩ ?_
 intro ⟨i, l, aq, cq⟩ f w hst hJ ih1
 replace hst : St _ _ ([Res.sl aq l.length cq 72 3 (l.flatMap tokC)] ++ [_]) _ _ := hst
 replace hJ : toksI s i l := hJ
 refine Run.slots (sl := [(4, .slice aq l.length cq), (5, .int .i64 (i : Int))]) ⟨rfl, rfl, trivial⟩ ?_
 have hidx : (s.getD ((i : Int).toNat) 0).toNat = (s.getD i 0).toNat := rfl
 have hj2 := hJ.2.1
 have hj1 := hJ.1
 refine SQ <| SR <| MI rfl <| MS rfl <| CN <| Op1.lenS (rest := []) ty9 rfl <| CN <| Op1.lss rfl rfl <| NL <| run_cond_dec rfl (fun g2 => ?_) (fun g2 => ?_)
 · skip
   refine run_skip <| run_block <| SQ <| run_block <| SR <| MS rfl <| MI rfl <| CN <| Op1.indexS ty9 rfl rfl (by omega) (by omega) <| CN <| Op1.eql rfl rfl <| AB rfl <| NL <| run_cond_dec rfl (fun g3 => ?_) (fun g3 => ?_)
   · skip
     refine run_exit (id := 0) rfl <| SR <| ML rfl <| CN (Op1.buildStruct ty28 stf28 .nil ?_)
     refine AL rfl <| CN (SO (v := .agg #[.int .i64 _, .int .i64 _]) hst ty28 rfl rfl (.there (.here)) fun w hst => ?_)
     refine NL <| run_ret2 Tryz.func38 rfl (TP (v := .slice _ _ _) rfl) (RV.cellA (vs := [.int .i64 _, .int .i64 _]) rfl ty28 rfl rfl (cells_of_obj (n := 2) (hst.objL (.tail _ (.head _))) _ rfl)) ?_
     rw [toksI_end hJ (by omega)]
     replace hst := hst.pick (.cons (.here) .nil)
     exact ⟨aq, cq, rfl, hst.noD⟩
   refine SR <| MS rfl <| MI rfl <| CN <| Op1.indexS ty9 rfl rfl (by omega) (by omega) <| CN <| Op1.call1 (v1 := .int .u8 _) ent79 rfl rfl <| Ret.det (R7lx_kindOf _ _) hst fun w hst => CN <| Op1.eql rfl rfl <| AB rfl <| NL <| run_cond_dec rfl (fun g4 => ?_) (fun g4 => ?_)
   · skip
     refine SR <| MI rfl <| CN <| Op1.addN rfl rfl rfl (wrap_i64 (by omega) (by omega)) <| AI rfl <| NL <| run_exit (id := 1) rfl <| run_inLoop ?_
     have hI := toksI_blank hJ (by omega) (by omega) ((kind_blank _).1 g4)
     exact ih1 ((i + 1, l, aq, cq)) _ w ((by (try dsimp only); omega)) hst (hI) ⟨rfl, rfl, trivial⟩ ⟨rfl, (congrArg (Value.int .i64) (by (try dsimp only); omega)), trivial⟩
   refine run_skip <| run_inBlock <| SR <| MS rfl <| MI rfl <| CN <| Op1.sliceFrom ty9 rfl rfl (by omega) (by omega) <| CN (Op1.call1 (v1 := str _) ent80 rfl rfl ((R7lx_token (s.drop i) (by rw [List.length_drop]; omega) _ (hst.hD _ (.head _)) (by rw [List.length_drop]; omega)).mono fun v w hp => ?_))
   rcases hp with ⟨kd, t, m, htk, rfl, hp⟩ | ⟨e, kd, t, m, htk, hne, rfl, hp⟩
   · skip
     replace hst := hst.keepc hp
     clear hp
     have hm := tokF_len (by rw [List.length_drop]; omega) htk
     rw [List.length_drop] at hm
     refine CN <| Op1.move (v := .tuple #[.agg #[.int .u8 _, str _, .int .i64 _], .int .i64 _, .int .i64 _]) rfl <| CN <| Op1.extract (v := .agg #[.int .u8 _, str _, .int .i64 _]) rfl rfl <| CN <| Op1.extract (v := .int .i64 _) rfl rfl <| CN <| Op1.extract (v := .int .i64 _) rfl rfl <| CN <| Op1.alloc hst ty72 fun w b6 hst => CN (SO (v := .agg #[.int .u8 _, str _, .int .i64 _]) hst ty72 rfl rfl (.here) fun w hst => ?_)
     refine AI rfl <| AI rfl <| NL <| Run.forget [(0, str _), (3, .pointer (some ⟨_, _, none⟩)), (4, .slice _ _ _), (5, .int .i64 _), (6, .pointer (some ⟨_, _, none⟩)), (7, .int .i64 _), (8, .int .i64 _)] ⟨rfl, rfl, rfl, rfl, rfl, rfl, rfl, trivial⟩ fun f => SQ <| SR <| MI rfl <| CN <| Op1.neq rfl rfl <| NL <| run_cond_dec rfl (fun g5 => ?_) (fun g5 => ?_)
     · skip
       exfalso
       exact g5 rfl
     refine run_skip <| SR <| MI rfl <| CN <| Op1.fieldAddr fld72_2 rfl <| CN (SO (v := .int .i64 _) hst ty3 rfl rfl (.here) fun w hst => ?_)
     refine NSR <| ML rfl <| CN <| Op1.loadA (vs := [.int .u8 _, str _, .int .i64 _]) ty72 rfl rfl rfl (cells_of_obj (n := 3) (hst.objL (.head _)) _ rfl) <| CN (Op1.buildSl (z0 := [.int .u8 0, str [], .int .i64 0]) hst ty65 ty72 rfl rfl (by kernel_rfl) (.c (v := .agg #[.int .u8 _, str _, .int .i64 _]) rfl (h := .nil)) fun w b43 hst => ?_)
     refine CN (Op1.append (news := tokC ⟨kd, t, (i : Int)⟩) hst ty65 ty72 rfl rfl (.there (.there (.here))) rfl rfl rfl (cells_of_obj (n := 3) (hst.objL (.head _)) _ rfl) rfl rfl (by omega) fun w ao6 cp7 hst => ?_)
     replace hst := hst.drop (.there (.here))
     refine AL rfl <| NR <| MI rfl <| MI rfl <| CN <| Op1.addN rfl rfl rfl (wrap_i64 (by omega) (by omega)) <| AI rfl <| NL <| run_inBlock <| run_inLoop ?_
     have hI := toksI_ok hJ (by omega) (by omega) (fun q => g4 ((kind_blank _).2 q)) htk
     replace hst := hst.pick (.cons (.here) (.cons (.there (.here)) .nil))
     exact ih1 ((i + m, l ++ [⟨kd, t, (i : Int)⟩], ao6, cp7)) _ w ((by (try dsimp only); omega)) (by rw [List.length_append, List.flatMap_append]; exact hst) (hI) ⟨rfl, rfl, trivial⟩ ⟨(by simp only [List.length_append]; rfl), (congrArg (Value.int .i64) (by (try dsimp only); omega)), trivial⟩
   · skip
     replace hst := hst.keepc hp
     clear hp
     refine CN <| Op1.move (v := .tuple #[.agg #[.int .u8 _, str _, .int .i64 _], .int .i64 _, .int .i64 _]) rfl <| CN <| Op1.extract (v := .agg #[.int .u8 _, str _, .int .i64 _]) rfl rfl <| CN <| Op1.extract (v := .int .i64 _) rfl rfl <| CN <| Op1.extract (v := .int .i64 _) rfl rfl <| CN <| Op1.alloc hst ty72 fun w b6 hst => CN (SO (v := .agg #[.int .u8 _, str _, .int .i64 _]) hst ty72 rfl rfl (.here) fun w hst => ?_)
     refine AI rfl <| AI rfl <| NL <| Run.forget [(0, str _), (3, .pointer (some ⟨_, _, none⟩)), (4, .slice _ _ _), (5, .int .i64 _), (6, .pointer (some ⟨_, _, none⟩)), (7, .int .i64 _), (8, .int .i64 _)] ⟨rfl, rfl, rfl, rfl, rfl, rfl, rfl, trivial⟩ fun f => SQ <| SR <| MI rfl <| CN <| Op1.neq rfl rfl <| NL <| run_cond_dec rfl (fun g8 => ?_) (fun g8 => ?_)
     · skip
       refine SR <| MI rfl <| MI rfl <| CN (Op1.buildStruct ty28 stf28 (.c (v := .int .i64 _) rfl (h := (.c (v := .int .i64 _) rfl (h := .nil)))) ?_)
       refine AL rfl <| CN (SO (v := .agg #[.int .i64 _, .int .i64 _]) hst ty28 rfl rfl (.there (.there (.here))) fun w hst => ?_)
       refine NL <| run_ret2 Tryz.func38 rfl (TP (v := .slice _ _ _) rfl) (RV.cellA (vs := [.int .i64 _, .int .i64 _]) rfl ty28 rfl rfl (cells_of_obj (n := 2) (hst.objL (.tail _ (.tail _ (.head _)))) _ rfl)) ?_
       rw [toksI_err hJ (by omega) (by omega) (fun q => g4 ((kind_blank _).2 q)) htk]
       replace hst := hst.pushNil 72 3
       replace hst := hst.pick (.cons (.here) .nil)
       exact ⟨none, 0, rfl, hst.noD⟩
     exfalso
     exact g8 hne
 refine run_exit (id := 0) rfl <| SR <| ML rfl <| CN (Op1.buildStruct ty28 stf28 .nil ?_)
 refine AL rfl <| CN (SO (v := .agg #[.int .i64 _, .int .i64 _]) hst ty28 rfl rfl (.there (.here)) fun w hst => ?_)
 refine NL <| run_ret2 Tryz.func38 rfl (TP (v := .slice _ _ _) rfl) (RV.cellA (vs := [.int .i64 _, .int .i64 _]) rfl ty28 rfl rfl (cells_of_obj (n := 2) (hst.objL (.tail _ (.head _))) _ rfl)) ?_
 rw [toksI_end hJ (by omega)]
 replace hst := hst.pick (.cons (.here) .nil)
 exact ⟨aq, cq, rfl, hst.noD⟩
end Go.SK
namespace Go.SK
open Go Go.Proofs
theorem fld72_0 : FldF Tryz.prog 72 0 0 := FldF.of (n := 0) (by kernel_rfl)
theorem fld72_1 : FldF Tryz.prog 72 1 1 := FldF.of (n := 0) (by kernel_rfl)
end Go.SK
namespace Go.SK
open Go Go.Proofs
theorem fld130_4 : FldF Tryz.prog 130 4 4 := FldF.of (n := 1) (by kernel_rfl)
theorem fld130_2 : FldF Tryz.prog 130 2 2 := FldF.of (n := 0) (by kernel_rfl)
theorem fld130_1 : FldF Tryz.prog 130 1 1 := FldF.of (n := 0) (by kernel_rfl)
theorem ent73 : Enters Tryz.prog 73 := ⟨Tryz.f73, _, Tryz.func73, by kernel_rfl, rfl⟩
theorem fld130_0 : FldF Tryz.prog 130 0 0 := FldF.of (n := 0) (by kernel_rfl)
theorem ent128 : Enters Tryz.prog 128 := ⟨Tryz.f128, _, Tryz.func128, by kernel_rfl, rfl⟩
end Go.SK
namespace Go.SK
open Go Go.Proofs
open Go.RowKit
theorem R7as_fails (bq : Nat) (s : Tx) (ao : Option Addr) (cp : Nat) (l : List TokL) (a : Nat) (bound e p : Int) (e2 p2 : Int) (w : World) (hB : (Res.row bq 130 [str s, .slice ao l.length cp, .int .i64 (a : Int), .int .u32 bound, .int .i64 e, .int .i64 p]).holds w) : Ret Tryz.prog 128 #[.pointer (some ⟨bq, 0, none⟩), .int .i64 e2, .int .i64 p2] w (fun v w' => v = .bool false ∧ St w (Res.row bq 130 [str s, .slice ao l.length cp, .int .i64 (a : Int), .int .u32 bound, .int .i64 e, .int .i64 p]).foot [Res.row bq 130 [str s, .slice ao l.length cp, .int .i64 (a : Int), .int .u32 bound, .int .i64 e2, .int .i64 p2]] [] w') := by
 refine Ret.enter (args := [.pointer (some ⟨bq, 0, none⟩), .int .i64 e2, .int .i64 p2]) Tryz.func128 rfl rfl rfl ?_
 have hst : St w (Res.row bq 130 [str s, .slice ao l.length cp, .int .i64 (a : Int), .int .u32 bound, .int .i64 e, .int .i64 p]).foot [Res.row bq 130 [str s, .slice ao l.length cp, .int .i64 (a : Int), .int .u32 bound, .int .i64 e, .int .i64 p]] [] w := St.enter1 hB (fun d hd => by cases hd) (fun d hd => by cases hd)
 refine SR <| AB rfl <| NSR <| MP rfl <| MI rfl <| MI rfl <| CN (Op1.buildStruct ty28 stf28 (.c (v := .int .i64 _) rfl (h := (.c (v := .int .i64 _) rfl (h := .nil)))) ?_)
 refine CN <| Op1.nilCheckP rfl <| CN <| Op1.fieldAddr fld130_4 rfl <| CN (SO (v := .agg #[.int .i64 _, .int .i64 _]) hst ty28 rfl rfl (.here) fun w hst => ?_)
 refine NSR <| AB rfl <| NL <| run_ret1 Tryz.func128 rfl (TP (v := .bool _) rfl) ?_
 exact ⟨rfl, hst⟩
theorem R7as_more (bq : Nat) (s : Tx) (ao : Option Addr) (cp : Nat) (l : List TokL) (a : Nat) (bound e p : Int) (w : World) (hB : (Res.row bq 130 [str s, .slice ao l.length cp, .int .i64 (a : Int), .int .u32 bound, .int .i64 e, .int .i64 p]).holds w) : Ret Tryz.prog 73 #[.pointer (some ⟨bq, 0, none⟩)] w (fun v w' => v = .bool (decide (a < l.length)) ∧ St w (Res.row bq 130 [str s, .slice ao l.length cp, .int .i64 (a : Int), .int .u32 bound, .int .i64 e, .int .i64 p]).foot [Res.row bq 130 [str s, .slice ao l.length cp, .int .i64 (a : Int), .int .u32 bound, .int .i64 e, .int .i64 p]] [] w') := by
 refine Ret.enter (args := [.pointer (some ⟨bq, 0, none⟩)]) Tryz.func73 rfl rfl rfl ?_
 have hst : St w (Res.row bq 130 [str s, .slice ao l.length cp, .int .i64 (a : Int), .int .u32 bound, .int .i64 e, .int .i64 p]).foot [Res.row bq 130 [str s, .slice ao l.length cp, .int .i64 (a : Int), .int .u32 bound, .int .i64 e, .int .i64 p]] [] w := St.enter1 hB (fun d hd => by cases hd) (fun d hd => by cases hd)
 refine SR <| AB rfl <| NL <| SQ <| RunD.start [] hst (bs := [0, 1, 3, 7, 0, 16, 48, 112, 240, 511, 1023]) (ds := [some 3, some 4, some 5, some 6, some 7, some 8, some 9, some 10, some 11, some 12, some 2]) ⟨by kernel_rfl, by kernel_rfl, by kernel_rfl⟩ (fun tab1 => ?_)
 refine RunD.op (det _) tab1 1 (fun f' L' w' hc => Op1.move (v := .pointer (some ⟨_, _, none⟩)) (hc.old (v := .pointer (some ⟨_, _, none⟩)) rfl rfl rfl) ⟨[], ⟨rfl, rfl⟩, hc.st⟩) <| RunD.op (det _) tab1 2 (fun f' L' w' hc => Op1.nilCheckP (hc.det (j := 0) rfl rfl rfl rfl) ⟨[], ⟨rfl, rfl⟩, hc.st⟩) <| RunD.op (det _) tab1 3 (fun f' L' w' hc => Op1.fieldAddr fld130_2 (hc.det (j := 1) rfl rfl rfl rfl) ⟨[], ⟨rfl, rfl⟩, hc.st⟩) <| RunD.op (det _) tab1 4 (fun f' L' w' hc => Op1.load1 (v := .int .i64 _) ty3 rfl (hc.det (j := 2) rfl rfl rfl rfl) (hc.st.cellL (List.mem_append_right _ (.head _)) rfl) ⟨[], ⟨rfl, rfl⟩, hc.st⟩) <| RunD.op (det _) tab1 5 (fun f' L' w' hc => Op1.move (v := .pointer (some ⟨_, _, none⟩)) (hc.old (v := .pointer (some ⟨_, _, none⟩)) rfl rfl rfl) ⟨[], ⟨rfl, rfl⟩, hc.st⟩) <| RunD.op (det _) tab1 6 (fun f' L' w' hc => Op1.nilCheckP (hc.det (j := 4) rfl rfl rfl rfl) ⟨[], ⟨rfl, rfl⟩, hc.st⟩) <| RunD.op (det _) tab1 7 (fun f' L' w' hc => Op1.fieldAddr fld130_1 (hc.det (j := 5) rfl rfl rfl rfl) ⟨[], ⟨rfl, rfl⟩, hc.st⟩) <| RunD.op (det _) tab1 8 (fun f' L' w' hc => Op1.load1 (v := .slice _ _ _) ty65 rfl (hc.det (j := 6) rfl rfl rfl rfl) (hc.st.cellL (List.mem_append_right _ (.head _)) rfl) ⟨[], ⟨rfl, rfl⟩, hc.st⟩) <| RunD.op (det _) tab1 9 (fun f' L' w' hc => Op1.lenSl (rest := []) ty65 (hc.det (j := 7) rfl rfl rfl rfl) ⟨[], ⟨rfl, rfl⟩, hc.st⟩) <| RunD.fin followsMixed tab1 hst rfl (fun f2 w R5 hs3 hd4 hr6 hst => ?_)
 obtain ⟨h3_, r0⟩ := hd4 0 3 rfl rfl
 obtain ⟨h4_, r1⟩ := hd4 1 4 rfl rfl
 obtain ⟨h5_, r2⟩ := hd4 2 5 rfl rfl
 obtain ⟨h6_, r3⟩ := hd4 3 6 rfl rfl
 obtain ⟨h7_, r4⟩ := hd4 4 7 rfl rfl
 obtain ⟨h8_, r5⟩ := hd4 5 8 rfl rfl
 obtain ⟨h9_, r6⟩ := hd4 6 9 rfl rfl
 obtain ⟨h10_, r7⟩ := hd4 7 10 rfl rfl
 obtain ⟨h11_, r8⟩ := hd4 8 11 rfl rfl
 simp only [show List.range 9 = [0, 1, 2, 3, 4, 5, 6, 7, 8] from rfl, List.flatMap_cons, List.flatMap_nil, List.map_cons, List.map_nil, r0, r1, r2, r3, r4, r5, r6, r7, r8, List.nil_append, List.append_nil, List.cons_append] at hst
 refine RunL.slots (sl := [(6, .int .i64 _), (11, .int .i64 _)]) ⟨h6_, h11_, trivial⟩ ?_
 clear hs3 hd4 hr6 tab1
 refine CN <| Op1.lss rfl rfl <| AB rfl <| NL <| run_ret1 Tryz.func73 rfl (TP (v := .bool _) rfl) ?_
 exact ⟨congrArg Value.bool (by first | rfl | (rw [decide_eq_decide]; omega)), hst⟩
theorem R7as_take (bq : Nat) (s : Tx) (ao : Option Addr) (cp : Nat) (l : List TokL) (a : Nat) (bound e p : Int) (kd : Int) (w : World) (hB : (Res.row bq 130 [str s, .slice ao l.length cp, .int .i64 (a : Int), .int .u32 bound, .int .i64 e, .int .i64 p]).holds w) (hT : (Res.sl ao l.length cp 72 3 (l.flatMap tokC)).holds w) (hTA : Apart (Res.row bq 130 [str s, .slice ao l.length cp, .int .i64 (a : Int), .int .u32 bound, .int .i64 e, .int .i64 p]) (Res.sl ao l.length cp 72 3 (l.flatMap tokC))) (hl : s.length ≤ 1099511627776) (hll : l.length ≤ s.length) (hts : wsz l ≤ 7 * s.length) : Ret Tryz.prog 126 #[.pointer (some ⟨bq, 0, none⟩), .int .u8 kd] w (fun v w' => (l.length ≤ a ∧ v = .tuple #[.agg #[.int .u8 0, str [], .int .i64 0], .bool false] ∧ St w (Res.row bq 130 [str s, .slice ao l.length cp, .int .i64 (a : Int), .int .u32 bound, .int .i64 e, .int .i64 p]).foot [Res.row bq 130 [str s, .slice ao l.length cp, .int .i64 (a : Int), .int .u32 bound, .int .i64 72, .int .i64 (s.length)]] [] w') ∨ (a < l.length ∧ (l.getD a tok0).kind ≠ kd ∧ v = .tuple #[.agg #[.int .u8 0, str [], .int .i64 0], .bool false] ∧ St w (Res.row bq 130 [str s, .slice ao l.length cp, .int .i64 (a : Int), .int .u32 bound, .int .i64 e, .int .i64 p]).foot [Res.row bq 130 [str s, .slice ao l.length cp, .int .i64 (a : Int), .int .u32 bound, .int .i64 70, .int .i64 ((l.getD a tok0).at_)]] [] w') ∨ (a < l.length ∧ (l.getD a tok0).kind = kd ∧ v = .tuple #[.agg #[.int .u8 (l.getD a tok0).kind, str (l.getD a tok0).text, .int .i64 (l.getD a tok0).at_], .bool true] ∧ St w (Res.row bq 130 [str s, .slice ao l.length cp, .int .i64 (a : Int), .int .u32 bound, .int .i64 e, .int .i64 p]).foot [Res.row bq 130 [str s, .slice ao l.length cp, .int .i64 (a + 1 : Int), .int .u32 bound, .int .i64 e, .int .i64 p]] [] w')) := by
 refine Ret.enter (args := [.pointer (some ⟨bq, 0, none⟩), .int .u8 kd]) Tryz.func126 rfl rfl rfl ?_
 have hst : St w (Res.row bq 130 [str s, .slice ao l.length cp, .int .i64 (a : Int), .int .u32 bound, .int .i64 e, .int .i64 p]).foot [Res.row bq 130 [str s, .slice ao l.length cp, .int .i64 (a : Int), .int .u32 bound, .int .i64 e, .int .i64 p]] [Res.sl ao l.length cp 72 3 (l.flatMap tokC)] w := St.enter1 hB (by simp only [List.forall_mem_cons]; exact ⟨hT, fun _ h => absurd h List.not_mem_nil⟩) (by simp only [List.forall_mem_cons]; exact ⟨hTA, fun _ h => absurd h List.not_mem_nil⟩)
 have hidx : (l.getD ((a : Int).toNat) tok0).kind = (l.getD a tok0).kind := rfl
 refine SR <| CN <| Op1.alloc hst ty72 fun w b4 hst => AB rfl <| NL <| SQ <| run_block <| SR <| MP rfl ?_
 replace hst := hst.pick (.cons (.there (.here)) (.cons (.here) .nil))
 refine CN (Op1.call1 (v1 := .pointer (some ⟨_, _, none⟩)) ent73 rfl rfl ((R7as_more _ _ _ _ _ a _ _ _ _ (hst.hL _ (.head _))).mono fun v w hp => ?_))
 obtain ⟨rfl, hp⟩ := hp
 replace hst := hst.call1 hp
 clear hp
 refine CN <| Op1.notD rfl <| AB rfl <| NL <| run_cond_dec rfl (fun g1 => ?_) (fun g1 => ?_)
 · skip
   refine SR <| CN (Op1.buildStruct ty72 stf72 .nil ?_)
   refine MP rfl <| MP rfl <| CN <| Op1.nilCheckP rfl <| CN <| Op1.fieldAddr fld130_0 rfl <| CN <| Op1.load1 (v := str _) ty9 rfl rfl (hst.cellL (.head _) rfl) <| CN <| Op1.lenS (rest := []) ty9 rfl <| CN (Op1.call3 (v1 := .pointer (some ⟨_, _, none⟩)) (v2 := .int .i64 _) (v3 := .int .i64 _) ent128 rfl rfl rfl rfl ((R7as_fails _ _ _ _ _ a _ e p _ _ _ (hst.hL _ (.head _))).mono fun v w hp => ?_))
   obtain ⟨rfl, hp⟩ := hp
   replace hst := hst.call1 hp
   clear hp
   refine CN (SO (v := .agg #[.int .u8 _, str _, .int .i64 _]) hst ty72 rfl rfl (.there (.here)) fun w hst => ?_)
   refine AB rfl <| NL <| run_ret2 Tryz.func126 rfl (RV.cellA (vs := [.int .u8 _, str _, .int .i64 _]) rfl ty72 rfl rfl (cells_of_obj (n := 3) (hst.objL (.tail _ (.head _))) _ rfl)) (TP (v := .bool _) rfl) ?_
   replace hst := hst.pick (.cons (.here) .nil)
   exact .inl ⟨by omega, rfl, hst.noD⟩
 refine SQ ?_
 obtain ⟨bs2, rfl⟩ := Res.sl_some (hst.hD _ (.head _)) (by omega)
 refine RunD.start [] hst (bs := [0, 1, 3, 7, 0, 16, 48, 112, 255, 511, 1023, 0, 4095, 8191]) (ds := [some 19, some 20, some 21, some 22, some 23, some 24, some 25, some 26, some 27, some 28, some 29, some 30, some 31, some 18]) ⟨by kernel_rfl, by kernel_rfl, by kernel_rfl⟩ (fun tab3 => ?_)
 refine RunD.op (det _) tab3 1 (fun f' L' w' hc => Op1.move (v := .pointer (some ⟨_, _, none⟩)) (hc.old (v := .pointer (some ⟨_, _, none⟩)) rfl rfl rfl) ⟨[], ⟨rfl, rfl⟩, hc.st⟩) <| RunD.op (det _) tab3 2 (fun f' L' w' hc => Op1.nilCheckP (hc.det (j := 0) rfl rfl rfl rfl) ⟨[], ⟨rfl, rfl⟩, hc.st⟩) <| RunD.op (det _) tab3 3 (fun f' L' w' hc => Op1.fieldAddr fld130_1 (hc.det (j := 1) rfl rfl rfl rfl) ⟨[], ⟨rfl, rfl⟩, hc.st⟩) <| RunD.op (det _) tab3 4 (fun f' L' w' hc => Op1.load1 (v := .slice _ _ _) ty65 rfl (hc.det (j := 2) rfl rfl rfl rfl) (hc.st.cellL (List.mem_append_right _ (.head _)) rfl) ⟨[], ⟨rfl, rfl⟩, hc.st⟩) <| RunD.op (det _) tab3 5 (fun f' L' w' hc => Op1.move (v := .pointer (some ⟨_, _, none⟩)) (hc.old (v := .pointer (some ⟨_, _, none⟩)) rfl rfl rfl) ⟨[], ⟨rfl, rfl⟩, hc.st⟩) <| RunD.op (det _) tab3 6 (fun f' L' w' hc => Op1.nilCheckP (hc.det (j := 4) rfl rfl rfl rfl) ⟨[], ⟨rfl, rfl⟩, hc.st⟩) <| RunD.op (det _) tab3 7 (fun f' L' w' hc => Op1.fieldAddr fld130_2 (hc.det (j := 5) rfl rfl rfl rfl) ⟨[], ⟨rfl, rfl⟩, hc.st⟩) <| RunD.op (det _) tab3 8 (fun f' L' w' hc => Op1.load1 (v := .int .i64 _) ty3 rfl (hc.det (j := 6) rfl rfl rfl rfl) (hc.st.cellL (List.mem_append_right _ (.head _)) rfl) ⟨[], ⟨rfl, rfl⟩, hc.st⟩) <| RunD.op (det _) tab3 9 (fun f' L' w' hc => Op1.indexSl ty65 ty72 (hc.det (j := 3) rfl rfl rfl rfl) (hc.det (j := 7) rfl rfl rfl rfl) (by omega) (by omega) ⟨[], ⟨rfl, rfl⟩, hc.st⟩) <| RunD.op (det _) tab3 10 (fun f' L' w' hc => Op1.fieldAddr fld72_0 (hc.det (j := 8) rfl rfl rfl rfl) ⟨[], ⟨rfl, rfl⟩, hc.st⟩) <| RunD.op (det _) tab3 11 (fun f' L' w' hc => Op1.load1 (v := .int .u8 _) ty5 rfl (hc.det (j := 9) rfl rfl rfl rfl) (Res.sl_cell (hc.st.hD _ (.head _)) (flat_cell (g := tokC) (d := tok0) tokC_len rfl (by omega))) ⟨[], ⟨rfl, rfl⟩, hc.st⟩) <| RunD.op (det _) tab3 12 (fun f' L' w' hc => Op1.move (v := .int .u8 _) (hc.old (v := .int .u8 _) rfl rfl rfl) ⟨[], ⟨rfl, rfl⟩, hc.st⟩) <| RunD.fin followsMixed tab3 hst rfl (fun f4 w R7 hs5 hd6 hr8 hst => ?_)
 obtain ⟨h19_, r0⟩ := hd6 0 19 rfl rfl
 obtain ⟨h20_, r1⟩ := hd6 1 20 rfl rfl
 obtain ⟨h21_, r2⟩ := hd6 2 21 rfl rfl
 obtain ⟨h22_, r3⟩ := hd6 3 22 rfl rfl
 obtain ⟨h23_, r4⟩ := hd6 4 23 rfl rfl
 obtain ⟨h24_, r5⟩ := hd6 5 24 rfl rfl
 obtain ⟨h25_, r6⟩ := hd6 6 25 rfl rfl
 obtain ⟨h26_, r7⟩ := hd6 7 26 rfl rfl
 obtain ⟨h27_, r8⟩ := hd6 8 27 rfl rfl
 obtain ⟨h28_, r9⟩ := hd6 9 28 rfl rfl
 obtain ⟨h29_, r10⟩ := hd6 10 29 rfl rfl
 obtain ⟨h30_, r11⟩ := hd6 11 30 rfl rfl
 simp only [show List.range 12 = [0, 1, 2, 3, 4, 5, 6, 7, 8, 9, 10, 11] from rfl, List.flatMap_cons, List.flatMap_nil, List.map_cons, List.map_nil, r0, r1, r2, r3, r4, r5, r6, r7, r8, r9, r10, r11, List.nil_append, List.append_nil, List.cons_append] at hst
 refine RunL.slots (sl := [(0, .pointer (some ⟨_, _, none⟩)), (4, .pointer (some ⟨_, _, none⟩)), (29, .int .u8 _), (30, .int .u8 _)]) ⟨(hs5 0 rfl).trans rfl, (hs5 4 rfl).trans rfl, h29_, h30_, trivial⟩ ?_
 clear hs5 hd6 hr8 tab3
 refine CN <| Op1.neq rfl rfl <| AB rfl <| NL <| Run.forget [(0, .pointer (some ⟨_, _, none⟩)), (4, .pointer (some ⟨_, _, none⟩)), (18, .bool _)] ⟨rfl, rfl, rfl, trivial⟩ fun f => run_cond_dec rfl (fun g9 => ?_) (fun g9 => ?_)
 · skip
   refine SQ ?_
   apply RunD.start [(13, Res.row bq 130 _, Res.emp)] hst (bs := [0, 0, 0, 4, 12, 28, 0, 64, 192, 448, 1020, 2044, 4092, 8190, 16383, 32767]) (ds := [some 32, some 33, some 34, some 35, some 36, some 37, some 38, some 39, some 40, some 41, some 42, some 43, some 44, some 45, none, some 5]) (htab := ⟨by kernel_rfl, by kernel_rfl, by kernel_rfl⟩)
   intro tab10
   refine RunD.op (det _) tab10 1 (fun f' L' w' hc => Op1.buildStruct ty72 stf72 .nil ⟨[], ⟨rfl, rfl⟩, hc.st⟩) ?_
   refine RunD.op (det _) tab10 2 (fun f' L' w' hc => Op1.move (v := .pointer (some ⟨_, _, none⟩)) (hc.old (v := .pointer (some ⟨_, _, none⟩)) rfl rfl rfl) ⟨[], ⟨rfl, rfl⟩, hc.st⟩) <| RunD.op (det _) tab10 3 (fun f' L' w' hc => Op1.move (v := .pointer (some ⟨_, _, none⟩)) (hc.old (v := .pointer (some ⟨_, _, none⟩)) rfl rfl rfl) ⟨[], ⟨rfl, rfl⟩, hc.st⟩) <| RunD.op (det _) tab10 4 (fun f' L' w' hc => Op1.nilCheckP (hc.det (j := 2) rfl rfl rfl rfl) ⟨[], ⟨rfl, rfl⟩, hc.st⟩) <| RunD.op (det _) tab10 5 (fun f' L' w' hc => Op1.fieldAddr fld130_1 (hc.det (j := 3) rfl rfl rfl rfl) ⟨[], ⟨rfl, rfl⟩, hc.st⟩) <| RunD.opP (det _) tab10 6 (fun f' L' w' hc hlate => Op1.load1 (v := .slice _ _ _) ty65 rfl (hc.det (j := 4) rfl rfl rfl rfl) (hc.st.cellL (List.mem_append_left _ (hlate _ _ _ (.head _) rfl)) rfl) ⟨[], ⟨rfl, rfl⟩, hc.st⟩) <| RunD.op (det _) tab10 7 (fun f' L' w' hc => Op1.move (v := .pointer (some ⟨_, _, none⟩)) (hc.old (v := .pointer (some ⟨_, _, none⟩)) rfl rfl rfl) ⟨[], ⟨rfl, rfl⟩, hc.st⟩) <| RunD.op (det _) tab10 8 (fun f' L' w' hc => Op1.nilCheckP (hc.det (j := 6) rfl rfl rfl rfl) ⟨[], ⟨rfl, rfl⟩, hc.st⟩) <| RunD.op (det _) tab10 9 (fun f' L' w' hc => Op1.fieldAddr fld130_2 (hc.det (j := 7) rfl rfl rfl rfl) ⟨[], ⟨rfl, rfl⟩, hc.st⟩) <| RunD.opP (det _) tab10 10 (fun f' L' w' hc hlate => Op1.load1 (v := .int .i64 _) ty3 rfl (hc.det (j := 8) rfl rfl rfl rfl) (hc.st.cellL (List.mem_append_left _ (hlate _ _ _ (.head _) rfl)) rfl) ⟨[], ⟨rfl, rfl⟩, hc.st⟩) <| RunD.op (det _) tab10 11 (fun f' L' w' hc => Op1.indexSl ty65 ty72 (hc.det (j := 5) rfl rfl rfl rfl) (hc.det (j := 9) rfl rfl rfl rfl) (by omega) (by omega) ⟨[], ⟨rfl, rfl⟩, hc.st⟩) <| RunD.op (det _) tab10 12 (fun f' L' w' hc => Op1.fieldAddr fld72_2 (hc.det (j := 10) rfl rfl rfl rfl) ⟨[], ⟨rfl, rfl⟩, hc.st⟩) <| RunD.op (det _) tab10 13 (fun f' L' w' hc => Op1.load1 (v := .int .i64 _) ty3 rfl (hc.det (j := 11) rfl rfl rfl rfl) (Res.sl_cell (hc.st.hD _ (.head _)) (flat_cell (g := tokC) (d := tok0) tokC_len rfl (by omega))) ⟨[], ⟨rfl, rfl⟩, hc.st⟩) <| RunD.ownC (fun g v rs => v = .bool false ∧ rs = [Res.row bq 130 [str s, .slice (some ⟨bs2, 0, none⟩) l.length cp, .int .i64 (((a : Nat) : Int) : Int), .int .u32 bound, .int .i64 70, .int .i64 ((l.getD a tok0).at_)]]) tab10 14 (.head _) (fun f' L' L'' w' hc ⟨X, hrem, hX⟩ => Op1.call3 (v1 := .pointer (some ⟨_, _, none⟩)) (v2 := .int .i64 _) (v3 := .int .i64 _) ent128 rfl (hc.det (j := 1) rfl rfl rfl rfl) rfl (hc.det (j := 12) rfl rfl rfl rfl) ((R7as_fails bq s _ cp l (a) bound e p 70 ((l.getD a tok0).at_) _ (hc.st.hL _ hrem.mem2)).mono fun v w hp => ⟨[_], fun g hg => ⟨hp.1, rfl⟩, hX _ _ (St.callRem hc.st hrem hp.2)⟩)) <| RunD.fin followsMixed tab10 hst rfl (fun f11 w R14 hs12 hd13 hr15 hst => ?_)
   obtain ⟨h32_, r0⟩ := hd13 0 32 rfl rfl
   obtain ⟨h33_, r1⟩ := hd13 1 33 rfl rfl
   obtain ⟨h34_, r2⟩ := hd13 2 34 rfl rfl
   obtain ⟨h35_, r3⟩ := hd13 3 35 rfl rfl
   obtain ⟨h36_, r4⟩ := hd13 4 36 rfl rfl
   obtain ⟨h37_, r5⟩ := hd13 5 37 rfl rfl
   obtain ⟨h38_, r6⟩ := hd13 6 38 rfl rfl
   obtain ⟨h39_, r7⟩ := hd13 7 39 rfl rfl
   obtain ⟨h40_, r8⟩ := hd13 8 40 rfl rfl
   obtain ⟨h41_, r9⟩ := hd13 9 41 rfl rfl
   obtain ⟨h42_, r10⟩ := hd13 10 42 rfl rfl
   obtain ⟨h43_, r11⟩ := hd13 11 43 rfl rfl
   obtain ⟨h44_, r12⟩ := hd13 12 44 rfl rfl
   obtain ⟨h45_, r13⟩ := hd13 13 45 rfl rfl
   simp only [show List.range 14 = [0, 1, 2, 3, 4, 5, 6, 7, 8, 9, 10, 11, 12, 13] from rfl, List.flatMap_cons, List.flatMap_nil, List.map_cons, List.map_nil, r0, r1, r2, r3, r4, r5, r6, r7, r8, r9, r10, r11, r12, r13, List.nil_append, List.append_nil, List.cons_append] at hst
   refine RunL.slots (sl := [(4, .pointer (some ⟨_, _, none⟩)), (32, .agg #[.int .u8 _, str _, .int .i64 _]), (45, .bool _)]) ⟨(hs12 4 rfl).trans rfl, h32_, h45_, trivial⟩ ?_
   clear hs12 hd13 hr15 tab10
   refine CN (SO (v := .agg #[.int .u8 _, str _, .int .i64 _]) hst ty72 rfl rfl (.there (.there (.here))) fun w hst => ?_)
   refine AB rfl <| NL <| run_ret2 Tryz.func126 rfl (RV.cellA (vs := [.int .u8 _, str _, .int .i64 _]) rfl ty72 rfl rfl (cells_of_obj (n := 3) (hst.objL (.tail _ (.tail _ (.head _)))) _ rfl)) (TP (v := .bool _) rfl) ?_
   replace hst := hst.pick (.cons (.here) .nil)
   exact .inr (.inl ⟨by omega, by omega, rfl, hst.noD⟩)
 refine run_skip <| run_inBlock <| SR <| MP rfl <| CN <| Op1.nilCheckP rfl <| CN <| Op1.fieldAddr fld130_2 rfl <| CN <| Op1.load1 (v := .int .i64 _) ty3 rfl rfl (hst.cellL (.head _) rfl) <| CN <| Op1.addN rfl rfl rfl (wrap_i64 (by omega) (by omega)) <| CN <| Op1.nilCheckP rfl <| CN <| Op1.fieldAddr fld130_2 rfl <| CN (SO (v := .int .i64 _) hst ty3 rfl rfl (.here) fun w hst => ?_)
 refine NL <| SQ <| RunD.start [] hst (bs := [0, 1, 3, 7, 0, 16, 48, 112, 240, 511, 1023, 2047, 4095]) (ds := [some 53, some 54, some 55, some 56, some 57, some 58, some 59, some 60, some 61, some 62, some 63, none, some 5]) ⟨by kernel_rfl, by kernel_rfl, by kernel_rfl⟩ (fun tab16 => ?_)
 refine RunD.op (det _) tab16 1 (fun f' L' w' hc => Op1.move (v := .pointer (some ⟨_, _, none⟩)) (hc.old (v := .pointer (some ⟨_, _, none⟩)) rfl rfl rfl) ⟨[], ⟨rfl, rfl⟩, hc.st⟩) <| RunD.op (det _) tab16 2 (fun f' L' w' hc => Op1.nilCheckP (hc.det (j := 0) rfl rfl rfl rfl) ⟨[], ⟨rfl, rfl⟩, hc.st⟩) <| RunD.op (det _) tab16 3 (fun f' L' w' hc => Op1.fieldAddr fld130_1 (hc.det (j := 1) rfl rfl rfl rfl) ⟨[], ⟨rfl, rfl⟩, hc.st⟩) <| RunD.op (det _) tab16 4 (fun f' L' w' hc => Op1.load1 (v := .slice _ _ _) ty65 rfl (hc.det (j := 2) rfl rfl rfl rfl) (hc.st.cellL (List.mem_append_right _ (.head _)) rfl) ⟨[], ⟨rfl, rfl⟩, hc.st⟩) <| RunD.op (det _) tab16 5 (fun f' L' w' hc => Op1.move (v := .pointer (some ⟨_, _, none⟩)) (hc.old (v := .pointer (some ⟨_, _, none⟩)) rfl rfl rfl) ⟨[], ⟨rfl, rfl⟩, hc.st⟩) <| RunD.op (det _) tab16 6 (fun f' L' w' hc => Op1.nilCheckP (hc.det (j := 4) rfl rfl rfl rfl) ⟨[], ⟨rfl, rfl⟩, hc.st⟩) <| RunD.op (det _) tab16 7 (fun f' L' w' hc => Op1.fieldAddr fld130_2 (hc.det (j := 5) rfl rfl rfl rfl) ⟨[], ⟨rfl, rfl⟩, hc.st⟩) <| RunD.op (det _) tab16 8 (fun f' L' w' hc => Op1.load1 (v := .int .i64 _) ty3 rfl (hc.det (j := 6) rfl rfl rfl rfl) (hc.st.cellL (List.mem_append_right _ (.head _)) rfl) ⟨[], ⟨rfl, rfl⟩, hc.st⟩) <| RunD.op (det _) tab16 9 (fun f' L' w' hc => Op1.subN (hc.det (j := 7) rfl rfl rfl rfl) rfl rfl (wrap_i64 (by omega) (by omega)) ⟨[], ⟨rfl, rfl⟩, hc.st⟩) <| RunD.fin followsMixed tab16 hst rfl (fun f17 w R20 hs18 hd19 hr21 hst => ?_)
 obtain ⟨h53_, r0⟩ := hd19 0 53 rfl rfl
 obtain ⟨h54_, r1⟩ := hd19 1 54 rfl rfl
 obtain ⟨h55_, r2⟩ := hd19 2 55 rfl rfl
 obtain ⟨h56_, r3⟩ := hd19 3 56 rfl rfl
 obtain ⟨h57_, r4⟩ := hd19 4 57 rfl rfl
 obtain ⟨h58_, r5⟩ := hd19 5 58 rfl rfl
 obtain ⟨h59_, r6⟩ := hd19 6 59 rfl rfl
 obtain ⟨h60_, r7⟩ := hd19 7 60 rfl rfl
 obtain ⟨h61_, r8⟩ := hd19 8 61 rfl rfl
 simp only [show List.range 9 = [0, 1, 2, 3, 4, 5, 6, 7, 8] from rfl, List.flatMap_cons, List.flatMap_nil, List.map_cons, List.map_nil, r0, r1, r2, r3, r4, r5, r6, r7, r8, List.nil_append, List.append_nil, List.cons_append] at hst
 refine RunL.slots (sl := [(4, .pointer (some ⟨_, _, none⟩)), (56, .slice _ _ _), (61, .int .i64 _)]) ⟨(hs18 4 rfl).trans rfl, h56_, h61_, trivial⟩ ?_
 clear hs18 hd19 hr21 tab16
 refine CN <| Op1.indexSl ty65 ty72 rfl rfl (by omega) (by omega) <| CN <| Op1.loadA (vs := [.int .u8 _, str _, .int .i64 _]) ty72 rfl rfl rfl (Res.sl_cells (k := 3) (hst.hD _ (.head _)) _ (flat_seg (g := tokC) (d := tok0) tokC_len _ _ (by omega))) <| CN (SO (v := .agg #[.int .u8 _, str _, .int .i64 _]) hst ty72 rfl rfl (.there (.here)) fun w hst => ?_)
 refine AB rfl <| NL <| run_ret2 Tryz.func126 rfl (RV.cellA (vs := [.int .u8 _, str _, .int .i64 _]) rfl ty72 rfl rfl (cells_of_obj (n := 3) (hst.objL (.tail _ (.head _))) _ rfl)) (TP (v := .bool _) rfl) ?_
 replace hst := hst.pick (.cons (.here) .nil)
 rw [show ((a : Int) + 1 - 1).toNat = a by omega]
 exact .inr (.inr ⟨by omega, by omega, rfl, hst.noD⟩)
end Go.SK
namespace Go.SK
open Go Go.Proofs
theorem ent126 : Enters Tryz.prog 126 := ⟨Tryz.f126, _, Tryz.func126, by kernel_rfl, rfl⟩
end Go.SK
namespace Go.SK
open Go Go.Proofs
open Go.RowKit
theorem R7as_number (bq : Nat) (s : Tx) (ao : Option Addr) (cp : Nat) (l : List TokL) (a : Nat) (bound e p : Int) (w : World) (hB : (Res.row bq 130 [str s, .slice ao l.length cp, .int .i64 (a : Int), .int .u32 bound, .int .i64 e, .int .i64 p]).holds w) (hT : (Res.sl ao l.length cp 72 3 (l.flatMap tokC)).holds w) (hTA : Apart (Res.row bq 130 [str s, .slice ao l.length cp, .int .i64 (a : Int), .int .u32 bound, .int .i64 e, .int .i64 p]) (Res.sl ao l.length cp 72 3 (l.flatMap tokC))) (hl : s.length ≤ 1099511627776) (hll : l.length ≤ s.length) (hts : wsz l ≤ 7 * s.length) (hG : LxG.holds w) (hGA : Apart (Res.row bq 130 [str s, .slice ao l.length cp, .int .i64 (a : Int), .int .u32 bound, .int .i64 e, .int .i64 p]) LxG) : Ret Tryz.prog 149 #[.pointer (some ⟨bq, 0, none⟩)] w (fun v w' => (l.length ≤ a ∧ v = .tuple #[.int .u32 0, .bool false] ∧ St w (Res.row bq 130 [str s, .slice ao l.length cp, .int .i64 (a : Int), .int .u32 bound, .int .i64 e, .int .i64 p]).foot [Res.row bq 130 [str s, .slice ao l.length cp, .int .i64 (a : Int), .int .u32 bound, .int .i64 72, .int .i64 (s.length)]] [] w') ∨ (a < l.length ∧ (l.getD a tok0).kind ≠ 3 ∧ v = .tuple #[.int .u32 0, .bool false] ∧ St w (Res.row bq 130 [str s, .slice ao l.length cp, .int .i64 (a : Int), .int .u32 bound, .int .i64 e, .int .i64 p]).foot [Res.row bq 130 [str s, .slice ao l.length cp, .int .i64 (a : Int), .int .u32 bound, .int .i64 70, .int .i64 ((l.getD a tok0).at_)]] [] w') ∨ (a < l.length ∧ (l.getD a tok0).kind = 3 ∧ (numLx (l.getD a tok0).text).2 ≠ 0 ∧ v = .tuple #[.int .u32 0, .bool false] ∧ St w (Res.row bq 130 [str s, .slice ao l.length cp, .int .i64 (a : Int), .int .u32 bound, .int .i64 e, .int .i64 p]).foot [Res.row bq 130 [str s, .slice ao l.length cp, .int .i64 (a + 1 : Int), .int .u32 bound, .int .i64 ((numLx (l.getD a tok0).text).2), .int .i64 ((l.getD a tok0).at_)]] [] w') ∨ (a < l.length ∧ (l.getD a tok0).kind = 3 ∧ (numLx (l.getD a tok0).text).2 = 0 ∧ v = .tuple #[.int .u32 (numLx (l.getD a tok0).text).1, .bool true] ∧ St w (Res.row bq 130 [str s, .slice ao l.length cp, .int .i64 (a : Int), .int .u32 bound, .int .i64 e, .int .i64 p]).foot [Res.row bq 130 [str s, .slice ao l.length cp, .int .i64 (a + 1 : Int), .int .u32 bound, .int .i64 e, .int .i64 p]] [] w')) := by
 refine Ret.enter (args := [.pointer (some ⟨bq, 0, none⟩)]) Tryz.func149 rfl rfl rfl ?_
 have hst : St w (Res.row bq 130 [str s, .slice ao l.length cp, .int .i64 (a : Int), .int .u32 bound, .int .i64 e, .int .i64 p]).foot [Res.row bq 130 [str s, .slice ao l.length cp, .int .i64 (a : Int), .int .u32 bound, .int .i64 e, .int .i64 p]] [Res.sl ao l.length cp 72 3 (l.flatMap tokC), LxG] w := St.enter1 hB (by simp only [List.forall_mem_cons]; exact ⟨hT, hG, fun _ h => absurd h List.not_mem_nil⟩) (by simp only [List.forall_mem_cons]; exact ⟨hTA, hGA, fun _ h => absurd h List.not_mem_nil⟩)
 refine SR <| AU rfl <| AB rfl <| NSR <| MP rfl <| CN (Op1.call2 (v1 := .pointer (some ⟨_, _, none⟩)) (v2 := .int .u8 _) ent126 rfl rfl rfl ((R7as_take _ _ _ _ l a _ _ _ 3 _ (hst.hL _ (.head _)) (hst.hD _ (.head _)) (hst.sepD _ (.head _) _ (.head _)) hl hll hts).mono fun v w hp => ?_))
 rcases hp with ⟨hk10, rfl, hp⟩ | ⟨hk10, hd10, rfl, hp⟩ | ⟨hk10, hd10, rfl, hp⟩
 · skip
   replace hst := hst.call1 hp
   clear hp
   refine CN <| Op1.move (v := .tuple #[.agg #[.int .u8 _, str _, .int .i64 _], .bool _]) rfl <| CN <| Op1.extract (v := .agg #[.int .u8 _, str _, .int .i64 _]) rfl rfl <| CN <| Op1.extract (v := .bool _) rfl rfl <| CN <| Op1.alloc hst ty72 fun w b4 hst => CN (SO (v := .agg #[.int .u8 _, str _, .int .i64 _]) hst ty72 rfl rfl (.here) fun w hst => ?_)
   refine AB rfl <| NL <| SQ <| SR <| MB rfl <| CN <| Op1.not rfl <| NL <| run_cond_true (congrArg Value.bool (congrArg not (rfl : false = _))) <| SR <| AU rfl <| AB rfl <| NL <| run_ret2 Tryz.func149 rfl (TP (v := .int .u32 _) rfl) (TP (v := .bool _) rfl) ?_
   replace hst := hst.pick (.cons (.there (.here)) .nil)
   exact .inl ⟨hk10, rfl, hst.noD⟩
 · skip
   replace hst := hst.call1 hp
   clear hp
   refine CN <| Op1.move (v := .tuple #[.agg #[.int .u8 _, str _, .int .i64 _], .bool _]) rfl <| CN <| Op1.extract (v := .agg #[.int .u8 _, str _, .int .i64 _]) rfl rfl <| CN <| Op1.extract (v := .bool _) rfl rfl <| CN <| Op1.alloc hst ty72 fun w b4 hst => CN (SO (v := .agg #[.int .u8 _, str _, .int .i64 _]) hst ty72 rfl rfl (.here) fun w hst => ?_)
   refine AB rfl <| NL <| SQ <| SR <| MB rfl <| CN <| Op1.not rfl <| NL <| run_cond_true (congrArg Value.bool (congrArg not (rfl : false = _))) <| SR <| AU rfl <| AB rfl <| NL <| run_ret2 Tryz.func149 rfl (TP (v := .int .u32 _) rfl) (TP (v := .bool _) rfl) ?_
   replace hst := hst.pick (.cons (.there (.here)) .nil)
   exact .inr (.inl ⟨hk10, hd10, rfl, hst.noD⟩)
 · skip
   replace hst := hst.call1 hp
   clear hp
   refine CN <| Op1.move (v := .tuple #[.agg #[.int .u8 _, str _, .int .i64 _], .bool _]) rfl <| CN <| Op1.extract (v := .agg #[.int .u8 _, str _, .int .i64 _]) rfl rfl <| CN <| Op1.extract (v := .bool _) rfl rfl <| CN <| Op1.alloc hst ty72 fun w b4 hst => CN (SO (v := .agg #[.int .u8 _, str _, .int .i64 _]) hst ty72 rfl rfl (.here) fun w hst => ?_)
   refine AB rfl <| NL <| SQ <| SR <| MB rfl <| CN <| Op1.not rfl <| NL <| run_cond_false (congrArg Value.bool (congrArg not (rfl : true = _))) <| run_skip <| SR <| CN <| Op1.fieldAddr fld72_1 rfl <| CN <| Op1.load1 (v := str _) ty9 rfl rfl (hst.cellL (.head _) rfl) <| CN <| Op1.call1 (v1 := str _) ent40 rfl rfl <| Ret.det (R7lx_lNumber (l.getD a tok0).text _ (hst.hD _ (.tail _ (.head _))) (by have := wsz_mem (l := l) (i := a) (by omega); omega)) hst fun w hst => ?_
   refine CN <| Op1.move (v := .tuple #[.int .u32 _, .int .i64 _]) rfl <| CN <| Op1.extract (v := .int .u32 _) rfl rfl <| CN <| Op1.extract (v := .int .i64 _) rfl rfl <| AU rfl <| AI rfl <| NL <| Run.forget [(0, .pointer (some ⟨_, _, none⟩)), (4, .pointer (some ⟨_, _, none⟩)), (6, .int .u32 _), (7, .int .i64 _)] ⟨rfl, rfl, rfl, rfl, trivial⟩ fun f => SQ <| SR <| MI rfl <| CN <| Op1.neq rfl rfl <| NL <| run_cond_dec rfl (fun g1 => ?_) (fun g1 => ?_)
   · skip
     refine SR <| MP rfl <| MI rfl <| CN <| Op1.fieldAddr fld72_2 rfl <| CN (Op1.load1 (v := .int .i64 _) ty3 rfl rfl (hst.cellL (.head _) rfl) ?_)
     replace hst := hst.pick (.cons (.there (.here)) (.cons (.here) .nil))
     refine CN (Op1.call3 (v1 := .pointer (some ⟨_, _, none⟩)) (v2 := .int .i64 _) (v3 := .int .i64 _) ent128 rfl rfl rfl rfl ((R7as_fails _ _ _ _ _ _ _ e p _ _ _ (hst.hL _ (.head _))).mono fun v w hp => ?_))
     obtain ⟨rfl, hp⟩ := hp
     replace hst := hst.call1 hp
     clear hp
     refine AU rfl <| AB rfl <| NL <| run_ret2 Tryz.func149 rfl (TP (v := .int .u32 _) rfl) (TP (v := .bool _) rfl) ?_
     replace hst := hst.pick (.cons (.here) .nil)
     exact .inr (.inr (.inl ⟨hk10, hd10, g1, rfl, hst.noD⟩))
   refine run_skip <| SR <| MU rfl <| AU rfl <| AB rfl <| NL <| run_ret2 Tryz.func149 rfl (TP (v := .int .u32 _) rfl) (TP (v := .bool _) rfl) ?_
   replace hst := hst.pick (.cons (.there (.here)) .nil)
   exact .inr (.inr (.inr ⟨hk10, hd10, Classical.not_not.1 g1, rfl, hst.noD⟩))
end Go.SK
namespace Go.SK
open Go Go.Proofs
theorem ent149 : Enters Tryz.prog 149 := ⟨Tryz.f149, _, Tryz.func149, by kernel_rfl, rfl⟩
end Go.SK
namespace Go.SK
open Go Go.Proofs
theorem ent38 : Enters Tryz.prog 38 := ⟨Tryz.f38, _, Tryz.func38, by kernel_rfl, rfl⟩
theorem ty130 : TyF Tryz.prog 130 (.struct (fieldsOf Tryz.prog 130)) 6 72 [str [], .slice none 0 0, .int .i64 0, .int .u32 0, .int .i64 0, .int .i64 0] := TyF.of (by kernel_rfl) (by kernel_rfl)
theorem stf130 : StructF Tryz.prog 130 [(0, 1), (1, 1), (2, 1), (3, 1), (4, 2)] := ⟨fieldsOf Tryz.prog 130, by kernel_rfl, fun w => by kernel_rfl⟩
theorem ent72 : Enters Tryz.prog 72 := ⟨Tryz.f72, _, Tryz.func72, by kernel_rfl, rfl⟩
theorem fld28_0 : FldF Tryz.prog 28 0 0 := FldF.of (n := 0) (by kernel_rfl)
theorem ty26 : TyF Tryz.prog 26 (.int .i64) 1 8 [.int .i64 0] := TyF.of (by kernel_rfl) (by kernel_rfl)
end Go.SK
namespace Go.SK
open Go Go.Proofs
open Go.RowKit
theorem R7as_read (s : Tx) (bound : Int) (w : World) (hG : LxG.holds w) (hl : s.length ≤ 1099511627776) : Ret Tryz.prog 72 #[str s, .int .u32 bound] w (fun v w' => ∃ bq ao cp, v = .tuple #[.pointer (some ⟨bq, 0, none⟩), .agg #[.int .i64 (toksF s).2.1, .int .i64 (toksF s).2.2]] ∧ St w NoM [Res.row bq 130 [str s, .slice ao (toksF s).1.length cp, .int .i64 ((0 : Nat) : Int), .int .u32 bound, .int .i64 0, .int .i64 0], Res.sl ao (toksF s).1.length cp 72 3 ((toksF s).1.flatMap tokC)] [] w') := by
 refine Ret.enter (args := [str s, .int .u32 bound]) Tryz.func72 rfl rfl rfl ?_
 have hst : St w NoM [] [LxG] w := St.init_Ds (by simp only [List.forall_mem_cons]; exact ⟨hG, fun _ h => absurd h List.not_mem_nil⟩)
 refine SR <| CN <| Op1.assign (v := _) rfl <| CN <| Op1.alloc hst ty28 fun w b5 hst => NSR <| MS rfl <| CN (Op1.call1 (v1 := str _) ent38 rfl rfl ((R7lx_lTokens s _ (hst.hD _ (.head _)) hl).mono fun v w hp => ?_))
 obtain ⟨ao, cp, rfl, hp⟩ := hp
 replace hst := hst.call0 hp
 clear hp
 refine CN <| Op1.move (v := .tuple #[.slice _ _ _, .agg #[.int .i64 _, .int .i64 _]]) rfl <| CN <| Op1.extract (v := .slice _ _ _) rfl rfl <| CN <| Op1.extract (v := .agg #[.int .i64 _, .int .i64 _]) rfl rfl <| CN <| Op1.alloc hst ty28 fun w b7 hst => AL rfl <| CN (SO (v := .agg #[.int .i64 _, .int .i64 _]) hst ty28 rfl rfl (.here) fun w hst => ?_)
 refine NL <| SQ <| RunD.start [] hst (bs := [0, 0, 0, 7, 15, 0, 31, 127]) (ds := [some 13, some 14, some 15, some 16, some 17, some 18, some 4, none]) ⟨by kernel_rfl, by kernel_rfl, by kernel_rfl⟩ (fun tab1 => ?_)
 refine RunD.op (det _) tab1 1 (fun f' L' w' hc => Op1.move (v := str _) (hc.old (v := str _) rfl rfl rfl) ⟨[], ⟨rfl, rfl⟩, hc.st⟩) <| RunD.op (det _) tab1 2 (fun f' L' w' hc => Op1.move (v := .slice _ _ _) (hc.old (v := .slice _ _ _) rfl rfl rfl) ⟨[], ⟨rfl, rfl⟩, hc.st⟩) <| RunD.op (det _) tab1 3 (fun f' L' w' hc => Op1.move (v := .int .u32 _) (hc.old (v := .int .u32 _) rfl rfl rfl) ⟨[], ⟨rfl, rfl⟩, hc.st⟩) <| RunD.op (det _) tab1 4 (fun f' L' w' hc => Op1.buildStruct ty130 stf130 (.c (v := str _) (hc.det (j := 0) rfl rfl rfl rfl) (h := (.c (v := .slice _ _ _) (hc.det (j := 1) rfl rfl rfl rfl) (h := (.c (v := .int .u32 _) (hc.det (j := 2) rfl rfl rfl rfl) (h := .nil)))))) ⟨[], ⟨rfl, rfl⟩, hc.st⟩) ?_
 refine RunD.op (fun v rs => ∃ b, v = .pointer (some ⟨b, 0, none⟩) ∧ rs = [Res.row b 130 [str s, .slice ao (toksF s).1.length cp, .int .i64 ((0 : Nat) : Int), .int .u32 bound, .int .i64 0, .int .i64 0]]) tab1 5 (fun f' L' w' hc => Op1.box (vs := [str s, .slice ao (toksF s).1.length cp, .int .i64 ((0 : Nat) : Int), .int .u32 bound, .int .i64 0, .int .i64 0]) hc.st (hc.det (j := 3) rfl rfl rfl rfl) rfl fun w b hst => ⟨[_], ⟨b, rfl, rfl⟩, hst⟩) <| RunD.op (det _) tab1 6 (fun f' L' w' hc => Op1.loadA (vs := [.int .i64 _, .int .i64 _]) ty28 rfl (hc.old (v := .pointer (some ⟨_, _, none⟩)) rfl rfl rfl) rfl (cells_of_obj (n := 2) (hc.st.objL (List.mem_append_right _ (.head _))) _ rfl) ⟨[], ⟨rfl, rfl⟩, hc.st⟩) <| RunD.opR (fun g v rs => v = g 17 ∧ rs = []) tab1 7 (fun f' L' w' hc => Op1.assign (v := f' 17) (evs rfl rfl) ⟨[], fun g hg => ⟨(hg 4 17 rfl rfl).symm, rfl⟩, hc.st⟩) <| RunD.fin followsMixed tab1 hst rfl (fun f2 w R5 hs3 hd4 hr6 hst => ?_)
 obtain ⟨h13_, r0⟩ := hd4 0 13 rfl rfl
 obtain ⟨h14_, r1⟩ := hd4 1 14 rfl rfl
 obtain ⟨h15_, r2⟩ := hd4 2 15 rfl rfl
 obtain ⟨h16_, r3⟩ := hd4 3 16 rfl rfl
 obtain ⟨b17, h17_, r4⟩ := hd4 4 17 rfl rfl
 obtain ⟨h18_, r5⟩ := hd4 5 18 rfl rfl
 obtain ⟨h4_, r6⟩ := hd4 6 4 rfl rfl
 rw [DrawTab.mask tab1 _ (j := 6) (l := 4) (t := 17) rfl rfl, h17_] at h4_
 simp only [show List.range 7 = [0, 1, 2, 3, 4, 5, 6] from rfl, List.flatMap_cons, List.flatMap_nil, List.map_cons, List.map_nil, r0, r1, r2, r3, r4, r5, r6, List.nil_append, List.append_nil, List.cons_append] at hst
 refine RunL.slots (sl := [(4, .pointer (some ⟨_, _, none⟩)), (5, .pointer (some ⟨_, _, none⟩)), (18, .agg #[.int .i64 _, .int .i64 _])]) ⟨h4_, (hs3 5 rfl).trans rfl, h18_, trivial⟩ ?_
 clear hs3 hd4 hr6 tab1
 refine CN (SO (v := .agg #[.int .i64 _, .int .i64 _]) hst ty28 rfl rfl (.there (.there (.there (.here)))) fun w hst => ?_)
 refine NL <| run_ret2 Tryz.func72 rfl (TP (v := .pointer (some ⟨_, _, none⟩)) rfl) (RV.cellA (vs := [.int .i64 _, .int .i64 _]) rfl ty28 rfl rfl (cells_of_obj (n := 2) (hst.objL (.tail _ (.tail _ (.tail _ (.head _))))) _ rfl)) ?_
 replace hst := hst.pick (.cons (.here) (.cons (.there (.here)) .nil))
 exact ⟨_, _, _, rfl, hst.noD⟩
end Go.SK
namespace Go.SK
open Go Go.Proofs
theorem ent64 : Enters Tryz.prog 64 := ⟨Tryz.f64, _, Tryz.func64, by kernel_rfl, rfl⟩
theorem ent65 : Enters Tryz.prog 65 := ⟨Tryz.f65, _, Tryz.func65, by kernel_rfl, rfl⟩
end Go.SK
namespace Go.SK
open Go Go.Proofs
open Go.RowKit
theorem R7as_spot (x y : Int) (w : World) : Ret Tryz.prog 65 #[.int .i64 x, .int .i64 y] w (fun v w' => v = .agg #[.int .i64 x, .int .i64 y] ∧ St w NoM [] [] w') := by
 refine Ret.enter (args := [.int .i64 x, .int .i64 y]) Tryz.func65 rfl rfl rfl ?_
 have hst := St.init w
 refine SR <| CN <| Op1.alloc hst ty28 fun w b4 hst => NSR <| MI rfl <| MI rfl <| CN (Op1.buildStruct ty28 stf28 (.c (v := .int .i64 _) rfl (h := (.c (v := .int .i64 _) rfl (h := .nil)))) ?_)
 refine CN (SO (v := .agg #[.int .i64 _, .int .i64 _]) hst ty28 rfl rfl (.here) fun w hst => ?_)
 refine NL <| run_ret1 Tryz.func65 rfl (RV.cellA (vs := [.int .i64 _, .int .i64 _]) rfl ty28 rfl rfl (cells_of_obj (n := 2) (hst.objL (.head _)) _ rfl)) ?_
 exact ⟨rfl, hst.pure⟩
end Go.SK
namespace Go.SK
open Go Go.Proofs
theorem ent178 : Enters Tryz.prog 178 := ⟨Tryz.f178, _, Tryz.func178, by kernel_rfl, rfl⟩
theorem ent179 : Enters Tryz.prog 179 := ⟨Tryz.f179, _, Tryz.func179, by kernel_rfl, rfl⟩
theorem ent180 : Enters Tryz.prog 180 := ⟨Tryz.f180, _, Tryz.func180, by kernel_rfl, rfl⟩
theorem ty211 : TyF Tryz.prog 211 (.array 6 9) 6 96 [str [], str [], str [], str [], str [], str []] := TyF.of (by kernel_rfl) (by kernel_rfl)
theorem ty21 : TyF Tryz.prog 21 (.int .i32) 1 4 [.int .i32 0] := TyF.of (by kernel_rfl) (by kernel_rfl)
end Go.SK
