/-
  Steps of functions, plain law, and walks of functions: what the laws rest on.
-/
import Derived.Test.YtoodfjpigminkaaSkG0d
import Derived.Test.YtoodfjpigminkaaSkG1a
import Derived.Test.YtoodfjpigminkaaSkG2a
import Derived.Test.YtoodfjpigminkaaSkG3a
import Derived.Test.YtoodfjpigminkaaSkG4a
import Derived.Test.YtoodfjpigminkaaSkG5a
import Derived.Test.YtoodfjpigminkaaSkG6a
import Derived.Test.YtoodfjpigminkaaSkG7a
import Derived.Test.YtoodfjpigminkaaSkG8a
import Derived.Test.YtoodfjpigminkaaSkG10a
import Derived.Test.YtoodfjpigminkaaSkG11a
import Derived.Test.YtoodfjpigminkaaSkG15a
import Derived.Test.YtoodfjpigminkaaSkG16a
import Derived.Test.YtoodfjpigminkaaSkG19a
import Derived.Test.YtoodfjpigminkaaSkG23a
import Derived.Test.YtoodfjpigminkaaSkG24a
set_option linter.unusedVariables false
set_option linter.unusedSimpArgs false
set_option linter.unusedSectionVars false
namespace Go.SK
theorem insR_raws {W : List Int} (hw : Wd W) : ∀ (raws : List RawL) (pre : List Int), W = pre ++ raws.flatMap rawW → (∀ r ∈ raws, 0 ≤ r.1 ∧ r.1 < 65536 ∧ r.2.length < 65535) → ∃ its, insR W pre.length = (its, W.length) ∧ its.map (·.2) = raws
  | [], pre, h, _ => by
    have e : W.length = pre.length := by rw [h]; simp
    exact ⟨[], by rw [insR_stop (by omega), e], rfl⟩
  | r :: rs, pre, h, hg => by
    have hr := hg r (.head _)
    have hlen : W.length = pre.length + (r.2.length + 1) + (rs.flatMap rawW).length := by rw [h]; simp [rawW]; omega
    have h0 : W.getD pre.length 0 = ((r.2.length : Int) + 1) * 65536 + r.1 := by rw [h, getD_appR (Nat.le_refl _), Nat.sub_self]; rfl
    have hn : W.getD pre.length 0 / 65536 = ((r.2.length + 1 : Nat) : Int) := by rw [h0]; omega
    have hm : W.getD pre.length 0 % 65536 = r.1 := by rw [h0]; omega
    have hd : (W.drop (pre.length + 1)).take (r.2.length + 1 - 1) = r.2 := by
      have e : W = (pre ++ [((r.2.length : Int) + 1) * 65536 + r.1]) ++ (r.2 ++ rs.flatMap rawW) := by rw [h]; simp [rawW]
      have e2 : pre.length + 1 = (pre ++ [((r.2.length : Int) + 1) * 65536 + r.1]).length := by simp
      rw [e2, e, List.drop_left, Nat.add_sub_cancel, List.take_left]
    obtain ⟨its, h1, h2⟩ := insR_raws hw rs (pre ++ rawW r) (by rw [h]; simp) (fun x hx => hg x (.tail _ hx))
    refine ⟨(pre.length, r.1, r.2) :: its, ?_, ?_⟩
    · rw [insR_step hw hn (by omega) (by omega), hm, hd]
      have e : pre.length + (r.2.length + 1) = (pre ++ rawW r).length := by simp [rawW]
      rw [e, h1]
    · simp [h2]
theorem decG_map {bd : Int} : ∀ {its : List InsW} {l : List InstL}, its.map (·.2) = rawsF bd l → (∀ i ∈ l, faultF bd i = 0) → (∀ i ∈ l, i.Okay) → decG bd its = (l, (0, 0))
  | [], [], _, _, _ => rfl
  | [], _ :: _, h, _, _ => by simp [rawsF] at h
  | _ :: _, [], h, _, _ => by simp [rawsF] at h
  | p :: ps, i :: l, h, hf, ho => by
    simp only [rawsF, List.map_cons, List.cons.injEq] at h
    have hi := inst_forth (Int.le_refl bd) (ho i (.head _)) (hf i (.head _))
    have hp : instF bd p.2.1 p.2.2 = (i, 0) := by rw [h.1, rawF_ok (hf i (.head _))]; exact hi.1
    have ih := decG_map (its := ps) (l := l) h.2 (fun x hx => hf x (.tail _ hx)) (fun x hx => ho x (.tail _ hx))
    rw [decG, hp, ih]; simp
theorem decode_encode {gn bd : Int} {l : List InstL} (hg : 0 ≤ gn ∧ gn < 4294967296) (hb : 0 ≤ bd ∧ bd < 4294967296) (ho : ∀ i ∈ l, i.Okay) (h : (shapeF bd l).1 = 0) : decodeF (encodeF gn bd l).1 = ((gn, bd, l), (0, 0)) ∧ (encodeF gn bd l).2 = (0, 0) ∧ 20 ≤ (encodeF gn bd l).1.length ∧ (encodeF gn bd l).1.length ≤ 4194304 := by
  have he := encode_good (gn := gn) h
  have hl := encode_len (gn := gn) h
  have hwd := writeW_wd hg hb he.2.2.2.1 ho
  generalize hW : writeW gn bd (rawsF bd l) = W at *
  have h5 : W = [119734787, 65536, gn, bd, 0] ++ (rawsF bd l).flatMap rawW := hW.symm
  have hlen : 5 ≤ W.length := by rw [h5]; simp
  have hs : splitE (joinW W) = 0 := splitE_ok (by rw [joinW_len]; omega) (by rw [joinW_len]; omega)
  rw [he.1]
  refine ⟨?_, rfl, by simp only [joinW_len]; omega, by simp only [joinW_len]; omega⟩
  simp only
  rw [decodeF_words hs, splitL_ok hs, splitW_joinW hwd]
  obtain ⟨its, h1, h2⟩ := insR_raws hwd (rawsF bd l) [119734787, 65536, gn, bd, 0] h5 (fun r hr => by
    obtain ⟨i, hi, rfl⟩ := List.mem_map.1 hr
    have hf := he.2.2.2.1 i hi
    have hw := words_room hf
    rw [rawF_ok hf]
    exact ⟨(ho i hi).op.1, (ho i hi).op.2, hw.2⟩)
  replace h1 : insR W 5 = (its, W.length) := h1
  have g2 : W.getD 2 0 = gn := by rw [h5]; rfl
  have g3 : W.getD 3 0 = bd := by rw [h5]; rfl
  have hh : headE W = (0, 0) := headE_ok fun j hj => by
    have hjl : j < W.length := by omega
    unfold hd1
    rw [if_pos hjl]
    match j, hj with
    | 0, _ => rw [h5]; rfl
    | 1, _ => rw [h5]; rfl
    | 2, _ => rw [h5]; rfl
    | 3, _ => rw [g3]; unfold wrongF; rw [if_neg (by decide), if_neg (by decide), if_pos rfl, if_neg (fun hx => hx.elim he.2.2.2.2.1 he.2.2.2.2.2)]
    | 4, _ => rw [h5]; rfl
  have hR := readF_ok (w := W) (by omega) (by rw [hh]) (by rw [h1]; exact Nat.lt_irrefl _)
  rw [g2, g3, h1] at hR
  exact decW_ok (z := (0, 0)) hR rfl (decG_map h2 he.2.2.2.1 ho)
end Go.SK
