/-
  Steps of functions, plain law, and walks of functions: what the laws rest on.
-/
import Derived.Test.YtoodfjpigminkaaSkG0d
import Derived.Test.YtoodfjpigminkaaSkG1a
import Derived.Test.YtoodfjpigminkaaSkG2a
import Derived.Test.YtoodfjpigminkaaSkG3a
import Derived.Test.YtoodfjpigminkaaSkG4a
import Derived.Test.YtoodfjpigminkaaSkG5a
import Derived.Test.YtoodfjpigminkaaSkG7a
import Derived.Test.YtoodfjpigminkaaSkG8a
import Derived.Test.YtoodfjpigminkaaSkG10a
import Derived.Test.YtoodfjpigminkaaSkG11a
import Derived.Test.YtoodfjpigminkaaSkG19a
set_option linter.unusedVariables false
set_option linter.unusedSimpArgs false
set_option linter.unusedSectionVars false
namespace Go.SK
theorem padded_take (s : List UInt8) : (padded s).take s.length = s := by
  unfold padded cpG
  rw [List.take_length, List.take_append_of_le_length (Nat.le_refl _), List.take_length]
theorem nozero {s : List UInt8} (h : zeroAt s = s.length) {q : Nat} (hq : q < s.length) : s.getD q 0 ≠ 0 := fun e => by
  have h1 : q < s.findIdx (· == 0) := by rw [← show zeroAt s = s.findIdx (· == 0) from rfl, h]; exact hq
  have h2 := List.not_of_lt_findIdx h1
  simp only [List.getD, List.getElem?_eq_getElem hq, Option.getD_some] at e
  rw [e] at h2
  exact absurd h2 (by decide)
theorem text_of {s : List UInt8} (h : ofTextE s = 0) {rest : List Int} (hr : Wd rest) : textF (ofTextL s ++ rest) = (s, ((s.length / 4 + 1 : Nat) : Int), 0) := by
  have hz : zeroAt s = s.length := Classical.not_not.1 fun hn => by unfold ofTextE at h; rw [if_pos hn] at h; cases h
  have hL := ofTextL_ok h
  have hw : Wd (ofTextL s ++ rest) := (ofTextL_wd s).app hr
  have hl : (ofTextL s).length = s.length / 4 + 1 := ofText_len h
  have hJ : joinW (ofTextL s ++ rest) = padded s ++ joinW rest := by rw [joinW_app, hL, joinW_splitW (by rw [padded_len]; omega)]
  have hlen : (ofTextL s ++ rest).length = s.length / 4 + 1 + rest.length := by rw [List.length_append, hl]
  have hg : ∀ r, r < 4 * (s.length / 4 + 1) → (joinW (ofTextL s ++ rest)).getD r 0 = if r < s.length then s.getD r 0 else 0 := fun r hr => by rw [hJ, getD_appL (by rw [padded_len]; exact hr), padded_get]
  have hb : ∀ r, s.length ≤ r → r < 4 * (s.length / 4 + 1) → ((byteAt (ofTextL s ++ rest) r).toNat : Int) = 0 := fun r h1 h2 => by
    rw [← joinW_get (by omega), hg r h2, if_neg (by omega)]; rfl
  rw [textF_ok2 hw (n := s.length) (by omega) (hb _ (Nat.le_refl _) (by omega)) (fun q hq => by rw [hg q (by omega), if_pos hq]; exact nozero hz hq) (fun r h1 h2 => hb r (by omega) (by omega))]
  rw [hJ, List.take_append_of_le_length (by rw [padded_len]; omega), padded_take]
theorem ofTextE_of {s : List UInt8} (hz : zeroAt s = s.length) (h : s.length / 4 + 1 ≤ 65535) : ofTextE s = 0 := by
  unfold ofTextE; rw [if_neg (fun e => e hz), if_neg (by omega)]
theorem idE_more {n b m : Int} (h : idE n b = 0) (hm : b ≤ m) : idE n m = 0 := by rw [idE_zero] at h ⊢; omega
theorem argE_forth {c b more : Int} {a : ArgP} (h : wrongA c a b = 0) (hm : b ≤ more) (hr : argRoom a ≤ 65535) {rest : List Int} (hw : Wd rest) : argE c (argW a ++ rest) more = (a, argRoom a, 0) ∧ (argW a).length = argRoom a := by
  obtain ⟨h1, h2, h3, h4, h5, h6, h7⟩ := wrongA_zero h
  have hl := argW_len h hr
  have hp := argRoom_pos a
  refine ⟨?_, hl⟩
  by_cases k3 : a.kind = 3
  · have ht := argW_text k3
    have he : ofTextE a.s = 0 := ofTextE_of h7 (by rw [ht.2] at hr; exact hr)
    rw [argE_text h1 (by rw [List.length_append]; omega) (by rw [← h2, k3]), ht.1, text_of he hw, ht.2]
    have hn := h3 k3
    obtain ⟨k, n, s⟩ := a
    obtain rfl : k = 3 := k3
    obtain rfl : n = 0 := hn
    rfl
  · have ht := argW_one k3
    rw [argE_one h1 (by rw [List.length_append]; omega) (by rw [← h2]; exact k3), ht.1, ht.2, ← h2]
    have hs := h4 k3
    obtain ⟨k, n, s⟩ := a
    simp only at hs h5 h6 k3 ⊢
    subst hs
    simp only [List.cons_append, List.nil_append, List.getD_cons_zero]
    by_cases k1 : k = 1
    · rw [if_pos k1, idE_more (h5 k1) hm]
    · rw [if_neg k1]
      by_cases k4 : k = 4
      · rw [if_pos k4, h6 k4]
      · rw [if_neg k4]
theorem wrongA_more {c b more : Int} {a : ArgP} (h : wrongA c a b = 0) (hm : b ≤ more) : wrongA c a more = 0 := by
  obtain ⟨h1, h2, h3, h4, h5, h6, h7⟩ := wrongA_zero h
  unfold wrongA
  rw [if_neg (fun hx => hx.elim h1 (fun e => e h2)), if_neg (fun hx => hx.elim (fun e => e.2 (h3 e.1)) (fun e => e.2 (h4 e.1))), if_neg (fun hx => hx.2 (idE_more (h5 hx.1) hm)), if_neg (fun hx => hx.2 (h6 hx.1)), if_neg (fun hx => hx h7)]
theorem wrongL_cons {fm : FormL} {b : Int} {k : Nat} {a : ArgP} {l : List ArgP} (h : wrongL fm b k (a :: l) = 0) : wrongA (letterS fm k) a b = 0 ∧ wrongL fm b (k + 1) l = 0 := by
  rw [wrongL] at h
  split at h
  · rename_i h1; exact absurd h h1
  · rename_i h1; exact ⟨Classical.not_not.1 h1, h⟩
theorem args_forth {fm : FormL} {b more : Int} (hm : b ≤ more) : ∀ (l : List ArgP) (k : Nat), wrongL fm b k l = 0 → (∀ a ∈ l, argRoom a ≤ 65535) → (∀ a ∈ l, Wd (argW a)) → fm.fixed.length ≤ k + l.length → argsR fm more k (l.flatMap argW) = (l, 0) ∧ wrongL fm more k l = 0
  | [], k, _, _, _, hk => ⟨argsR_stop rfl (by simpa using hk), rfl⟩
  | a :: l, k, h, hr, hw, hk => by
    obtain ⟨h1, h2⟩ := wrongL_cons h
    have hwl : Wd (l.flatMap argW) := fun x hx => by
      obtain ⟨y, hy, hx⟩ := List.mem_flatMap.1 hx
      exact hw y (.tail _ hy) x hx
    have hf := argE_forth h1 hm (hr a (.head _)) hwl
    have hp := argRoom_pos a
    have ih := args_forth hm l (k + 1) h2 (fun x hx => hr x (.tail _ hx)) (fun x hx => hw x (.tail _ hx)) (by rw [List.length_cons] at hk; omega)
    rw [List.flatMap_cons, argsR_step (a := a) (m := argRoom a) (.inl (by rw [List.length_append]; omega)) hf.1, show (argW a ++ l.flatMap argW).drop (argRoom a) = l.flatMap argW by rw [← hf.2]; exact List.drop_left, ih.1]
    refine ⟨rfl, ?_⟩
    rw [wrongL, wrongA_more h1 hm, if_neg (fun e => e rfl)]
    exact ih.2
theorem idH_zero {must : Bool} {n b e : Int} (he : e ≠ 0) (h : idH must n b e = 0) : (must = true → n ≠ 0 ∧ n < b) ∧ (must = false → n = 0) := by
  unfold idH at h
  split at h
  · exact absurd h he
  · rename_i h1
    have h1 := Classical.not_not.1 h1
    split at h
    · cases h
    · rename_i h2
      refine ⟨fun hm => ?_, fun hm => ?_⟩
      · subst hm
        have hn : n ≠ 0 := of_decide_eq_true h1.symm
        exact ⟨hn, by have : ¬ n ≥ b := fun hx => h2 ⟨rfl, hx⟩; omega⟩
      · subst hm
        exact Classical.not_not.1 (of_decide_eq_false h1.symm)
theorem heads_forth {fm : FormL} {b ty res : Int} {rest : List Int} (h1 : fm.ty = true → ty ≠ 0 ∧ ty < b) (h2 : fm.res = true → res ≠ 0 ∧ res < b) : headsF fm (headW fm ty res ++ rest) b = (b2n fm.ty + b2n fm.res, 0) ∧ (headW fm ty res).length = b2n fm.ty + b2n fm.res ∧ (fm.ty = true → (headW fm ty res ++ rest).getD 0 0 = ty) ∧ (fm.res = true → (headW fm ty res ++ rest).getD (b2n fm.ty) 0 = res) := by
  unfold headsF headW b2n
  cases ht : fm.ty <;> cases hr : fm.res
  · simp
  · have := h2 hr
    have e : idE res b = 0 := idE_zero.2 (by omega)
    simp [e]
  · have := h1 ht
    have e : idE ty b = 0 := idE_zero.2 (by omega)
    simp [e]
  · have := h1 ht
    have := h2 hr
    have e : idE ty b = 0 := idE_zero.2 (by omega)
    have e2 : idE res b = 0 := idE_zero.2 (by omega)
    simp [e, e2]
theorem Okay.argW_wd {i : InstL} (h : i.Okay) : ∀ a ∈ i.args, Wd (argW a) := fun a ha x hx => by
  unfold argW at hx
  split at hx
  · exact ofTextL_wd _ x hx
  · exact Wd.one (h.args a ha).1 x hx
theorem inst_forth {b more : Int} {i : InstL} (hm : b ≤ more) (ho : i.Okay) (h : faultF b i = 0) : instF more i.op (wordsI (refD i.op) i) = (i, 0) ∧ faultF more i = 0 := by
  obtain ⟨hs, hty, hres, hwl, hoff, hroom⟩ := fault_parts h
  have hwr := words_room h
  have t1 := idH_zero (by decide) hty
  have t2 := idH_zero (by decide) hres
  have hf := heads_forth (fm := refD i.op) (b := more) (ty := i.ty) (res := i.res) (rest := i.args.flatMap argW) (fun e => ⟨(t1.1 e).1, by have := (t1.1 e).2; omega⟩) (fun e => ⟨(t2.1 e).1, by have := (t2.1 e).2; omega⟩)
  have hfix : (refD i.op).fixed.length ≤ 0 + i.args.length := by
    unfold offR at hoff; rw [Nat.zero_add]; exact Nat.le_of_not_lt fun hx => hoff (.inl (by omega))
  have hrl : ∀ a ∈ i.args, argRoom a ≤ 65535 := fun a ha => by have := argRoom_sum ha; unfold roomI at hroom; omega
  have ha := args_forth (fm := refD i.op) hm i.args 0 hwl hrl (Okay.argW_wd ho) hfix
  have hW : wordsI (refD i.op) i = headW (refD i.op) i.ty i.res ++ i.args.flatMap argW := rfl
  have hd : (wordsI (refD i.op) i).drop (b2n (refD i.op).ty + b2n (refD i.op).res) = i.args.flatMap argW := by rw [hW, ← hf.2.1]; exact List.drop_left
  constructor
  · unfold instF
    rw [if_neg (by omega), if_neg (by rw [hs]; decide), hd, ha.1]
    rw [hW, hf.1, if_neg (fun e => e rfl), if_neg (fun e => e rfl), if_neg hoff]
    have e1 : (if (refD i.op).ty = true then (headW (refD i.op) i.ty i.res ++ i.args.flatMap argW).getD 0 0 else 0) = i.ty := by
      split
      · rename_i e; exact hf.2.2.1 e
      · rename_i e; exact (t1.2 (by simpa using e)).symm
    have e2 : (if (refD i.op).res = true then (headW (refD i.op) i.ty i.res ++ i.args.flatMap argW).getD (b2n (refD i.op).ty) 0 else 0) = i.res := by
      split
      · rename_i e; exact hf.2.2.2 e
      · rename_i e; exact (t2.2 (by simpa using e)).symm
    rw [e1, e2]
  · rw [faultF_eq hs, idH_of (fun e => ⟨(t1.1 e).1, by have := (t1.1 e).2; omega⟩) t1.2, if_neg (fun e => e rfl), idH_of (fun e => ⟨(t2.1 e).1, by have := (t2.1 e).2; omega⟩) t2.2, if_neg (fun e => e rfl), ha.2, if_neg (fun e => e rfl), if_neg hoff, if_neg (by omega)]
end Go.SK
