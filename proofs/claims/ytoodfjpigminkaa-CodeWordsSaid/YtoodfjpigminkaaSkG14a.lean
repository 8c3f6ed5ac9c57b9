/-
  Steps of functions, plain law, and walks of functions: what the laws rest on.
-/
import Derived.Test.YtoodfjpigminkaaSkG0d
import Derived.Test.YtoodfjpigminkaaSkG2a
import Derived.Test.YtoodfjpigminkaaSkG5a
import Derived.Test.YtoodfjpigminkaaSkG6a
set_option linter.unusedVariables false
set_option linter.unusedSimpArgs false
set_option linter.unusedSectionVars false
namespace Go.SK
theorem div_zero_more {x : Int} {t u : Nat} (h : x / 256 ^ t = 0) (hu : t ≤ u) : x / 256 ^ u = 0 := by
  obtain ⟨d, rfl⟩ := Nat.exists_eq_add_of_le hu
  rw [Int.pow_add, ← Int.ediv_ediv_of_nonneg (Int.le_of_lt (Int.pow_pos (by decide))), h]; simp
end Go.SK
namespace Go.SK
open Go.RowKit Go.ChangeShapes Go.WideShapes Go.ChangeAt
theorem heads_le {fm : FormL} {l : List Int} {bound : Int} (h : (headsF fm l bound).2 = 0) : b2n fm.ty + b2n fm.res ≤ l.length ∧ (fm.ty = true → idE (l.getD 0 0) bound = 0) ∧ (fm.res = true → idE (l.getD (b2n fm.ty) 0) bound = 0) := by
  unfold headsF at h
  split at h
  · cases h
  · split at h
    · cases h
    · split at h
      · cases h
      · split at h
        · cases h
        · rename_i h1 h2 h3 h4
          refine ⟨?_, fun ht => Classical.not_not.1 fun hn => h2 ⟨ht, hn⟩, fun ht => Classical.not_not.1 fun hn => h4 ⟨ht, hn⟩⟩
          cases ht : fm.ty <;> cases hr : fm.res <;> simp only [ht, hr, b2n, if_true, if_false, true_and, false_and, Bool.false_eq_true, not_true_eq_false, not_false_eq_true] at h1 h3 ⊢ <;> omega
end Go.SK
namespace Go.SK
theorem joinW_takeN {l : List Int} {n : Nat} (h : n ≤ l.length) : joinW (l.take n) = (joinW l).take (4 * n) := by
  have e : joinW l = joinW (l.take n) ++ joinW (l.drop n) := by rw [← joinW_app, List.take_append_drop]
  rw [e, List.take_left' (by rw [joinW_len, List.length_take]; omega)]
theorem of_text {ws : List Int} (hw : Wd ws) (hl : ws.length ≤ 65535) {s : List UInt8} {n : Int} (h : textF ws = (s, n, 0)) : n = ((s.length / 4 + 1 : Nat) : Int) ∧ s.length / 4 + 1 ≤ ws.length ∧ ofTextE s = 0 ∧ ofTextL s = ws.take (s.length / 4 + 1) ∧ zeroAt s = s.length := by
  unfold textF at h
  split at h
  · cases h
  · rename_i h1
    split at h
    · cases h
    · rename_i h2
      have h2 := Classical.not_not.1 h2
      injection h with hs hn
      injection hn with hn _
      have hle : zeroAt (joinW ws) ≤ (joinW ws).length := List.findIdx_le_length
      rw [joinW_len] at hle
      generalize hz : zeroAt (joinW ws) = z at *
      have hlt : z < 4 * ws.length := by omega
      have hsl : s.length = z := by rw [← hs, List.length_take, joinW_len]; omega
      have hne : ∀ q, q < z → (joinW ws).getD q 0 ≠ 0 := fun q hq e => by
        have h3 : q < (joinW ws).findIdx (· == 0) := by rw [← show zeroAt (joinW ws) = (joinW ws).findIdx (· == 0) from rfl, hz]; exact hq
        have h4 := List.not_of_lt_findIdx h3
        have hq2 : q < (joinW ws).length := by rw [joinW_len]; omega
        simp only [List.getD, List.getElem?_eq_getElem hq2, Option.getD_some] at e
        rw [e] at h4
        exact absurd h4 (by decide)
      have hsg : ∀ q, q < z → s.getD q 0 = (joinW ws).getD q 0 := fun q hq => by rw [← hs]; simp [List.getD, List.getElem?_take, hq]
      have hzs : zeroAt s = s.length := zero_none fun q hq => by rw [hsg q (by omega)]; exact hne q (by omega)
      have hE : ofTextE s = 0 := by unfold ofTextE; rw [if_neg (fun e => e hzs), if_neg (by omega)]
      have hp : padded s = (joinW ws).take (4 * (s.length / 4 + 1)) := by
        refine list_ext_getD2 0 (by rw [padded_len, List.length_take, joinW_len]; omega) fun r hr => ?_
        rw [padded_len] at hr
        rw [padded_get]
        have e1 : ((joinW ws).take (4 * (s.length / 4 + 1))).getD r 0 = (joinW ws).getD r 0 := by simp [List.getD, List.getElem?_take, hr]
        rw [e1]
        split
        · rename_i hr2; exact hsg r (by omega)
        · rename_i hr2
          rw [joinW_get (by omega), byteAt_j]
          refine u8_ext ?_
          rw [byteU_nat, show r / 4 = z / 4 by omega, div_zero_more h2 (by omega)]; rfl
      refine ⟨by rw [← hn, hsl], by omega, hE, ?_, hzs⟩
      rw [ofTextL_ok hE, hp, ← joinW_takeN (by omega), splitW_joinW (fun x hx => hw x (List.mem_of_mem_take hx))]
theorem argE_back {c b : Int} {ws : List Int} (hw : Wd ws) (hl : ws.length ≤ 65535) (h : (argE c ws b).2.2 = 0) : wrongA c (argE c ws b).1 b = 0 ∧ argW (argE c ws b).1 = ws.take (argE c ws b).2.1 ∧ argRoom (argE c ws b).1 = (argE c ws b).2.1 := by
  by_cases h1 : c = 0 ∨ ws.length = 0
  · rw [argE_none h1] at h; cases h
  · have h2 : ¬ c = 0 := fun e => h1 (.inl e)
    have h3 : ¬ ws.length = 0 := fun e => h1 (.inr e)
    by_cases hk : kindS c = 3
    · rw [argE_text h2 h3 hk] at h ⊢
      obtain ⟨s, n, e, ht⟩ : ∃ s n e, textF ws = (s, n, e) := ⟨_, _, _, rfl⟩
      rw [ht] at h ⊢
      simp only at h ⊢
      subst h
      obtain ⟨t1, t2, t3, t4, t5⟩ := of_text hw hl ht
      refine ⟨?_, ?_, ?_⟩
      · rw [wrongA_text h2 (fun e => e (by rw [hk])) rfl (fun e => e rfl)]; unfold textE; rw [if_neg (fun e => e t5)]
      · rw [(argW_text (a := ⟨3, 0, s⟩) rfl).1, t4, t1, Int.toNat_natCast]
      · rw [(argW_text (a := ⟨3, 0, s⟩) rfl).2, t1, Int.toNat_natCast]
    · rw [argE_one h2 h3 hk] at h ⊢
      simp only at h ⊢
      refine ⟨?_, ?_, ?_⟩
      · rw [wrongA_one h2 (fun e => e rfl) hk (fun e => e rfl)]; exact h
      · rw [(argW_one (a := ⟨kindS c, ws.getD 0 0, []⟩) hk).1]
        cases ws with
        | nil => exact absurd rfl h3
        | cons x r => rfl
      · exact (argW_one (a := ⟨kindS c, ws.getD 0 0, []⟩) hk).2
theorem args_back {fm : FormL} {b : Int} : ∀ (n k : Nat) (ws : List Int), ws.length < n → Wd ws → ws.length ≤ 65535 → (argsF fm b n k ws).2 = 0 → wrongL fm b k (argsF fm b n k ws).1 = 0 ∧ (argsF fm b n k ws).1.flatMap argW = ws ∧ ((argsF fm b n k ws).1.map argRoom).sum = ws.length
  | 0, k, ws, hn, _, _, _ => absurd hn (Nat.not_lt_zero _)
  | n + 1, k, ws, hn, hw, hl, h => by
    rw [argsF] at h ⊢
    split at h
    · rename_i h1
      rw [if_pos h1]
      have : ws = [] := List.length_eq_zero_iff.1 h1.1
      subst this
      exact ⟨rfl, rfl, rfl⟩
    · rename_i h1
      rw [if_neg h1]
      split at h
      · rename_i h2; exact absurd h h2
      · rename_i h2
        rw [if_neg h2]
        have he := Classical.not_not.1 h2
        have hok := argE_ok he
        have hb := argE_back hw hl he
        have ih := args_back n (k + 1) (ws.drop (argE (letterS fm k) ws b).2.1) (by rw [List.length_drop]; omega) (fun x hx => hw x (List.mem_of_mem_drop hx)) (by rw [List.length_drop]; omega) h
        refine ⟨?_, ?_, ?_⟩
        · rw [wrongL, if_neg (fun e => e hb.1)]; exact ih.1
        · simp only [List.flatMap_cons]; rw [hb.2.1, ih.2.1, List.take_append_drop]
        · simp only [List.map_cons, List.sum_cons]; rw [hb.2.2, ih.2.2, List.length_drop]; omega
theorem inst_back {b op : Int} {ws : List Int} {i : InstL} (hw : Wd ws) (h : instF b op ws = (i, 0)) : i.op = op ∧ faultF b i = 0 ∧ wordsI (refD op) i = ws := by
  unfold instF at h
  split at h
  · cases h
  · rename_i h1
    split at h
    · cases h
    · rename_i h2
      split at h
      · rename_i h3; injection h with _ h; exact absurd h h3
      · rename_i h3
        have h3 := Classical.not_not.1 h3
        split at h
        · rename_i h4; injection h with _ h; exact absurd h h4
        · rename_i h4
          have h4 := Classical.not_not.1 h4
          split at h
          · cases h
          · rename_i h5
            have hs : (refS op).isSome = true := by
              cases hs : (refS op).isSome with
              | true => rfl
              | false => exact absurd hs h2
            injection h with h _
            subst h
            have hh := heads_le h3
            have hb := args_back _ 0 _ (Nat.lt_succ_self _) (fun x hx => hw x (List.mem_of_mem_drop hx)) (by rw [List.length_drop]; omega) h4
            have hroom : roomI (refD op) (argsR (refD op) b 0 (ws.drop (b2n (refD op).ty + b2n (refD op).res))).1 ≤ 65535 := by
              have h6 : ((argsR (refD op) b 0 (ws.drop (b2n (refD op).ty + b2n (refD op).res))).1.map argRoom).sum = (ws.drop (b2n (refD op).ty + b2n (refD op).res)).length := hb.2.2
              have h7 : (ws.drop (b2n (refD op).ty + b2n (refD op).res)).length = ws.length - (b2n (refD op).ty + b2n (refD op).res) := List.length_drop
              have h8 := hh.1
              unfold roomI
              omega
            refine ⟨rfl, ?_, ?_⟩
            · rw [faultF_eq hs]
              simp only
              rw [idH_of (fun e => by rw [if_pos e]; have := idE_zero.1 (hh.2.1 e); omega) (fun e => by rw [e]; rfl), if_neg (fun e => e rfl),
                idH_of (fun e => by rw [if_pos e]; have := idE_zero.1 (hh.2.2 e); omega) (fun e => by rw [e]; rfl), if_neg (fun e => e rfl), hb.1, if_neg (fun e => e rfl), if_neg h5, if_neg (by omega)]
            · unfold wordsI
              simp only
              rw [hb.2.1]
              unfold headW
              have hle := hh.1
              revert hle
              unfold b2n
              cases (refD op).ty <;> cases (refD op).res <;> simp <;> intro hle
              · cases ws with
                | nil => simp at hle
                | cons x r => simp
              · cases ws with
                | nil => simp at hle
                | cons x r => simp
              · match ws, hle with
                | x :: y :: r, _ => simp
end Go.SK
namespace Go.SK
open Go.RowKit Go.ChangeShapes Go.WideShapes Go.ChangeAt
section
variable {H : Type} {enc : TypeId × Value → H} {P : Program} {w : World} {base : Nat} {spare : Nat → Bool} {held : Bool} {M I A : TypeId}
theorem open_cap {t e : TypeId} {ao : Option Addr} {n cap : Nat} {d : DataW H} {p : List MemPlace} (ht : P.underlying t = some (.slice e)) (h : DataW.Trod enc P w base spare held t (.slice ao n cap) d p) : n ≤ cap := by
  obtain ⟨fuel, hf⟩ := h
  replace hf : DataW.trod enc P w base spare held fuel t [.slice ao n cap] = some (d, p) := hf
  rcases DataW.trod_slice ht hf with ⟨h0, hx⟩ | ⟨a, len, c, elems, rest, k, _, hcs, hx, hb, hl, hm, _⟩
  · simp only [List.cons.injEq, and_true] at h0
    injection h0 with h1 h2 h3
    omega
  · simp only [List.cons.injEq, and_true] at hcs
    injection hcs with h1 h2 h3
    omega
end
end Go.SK
