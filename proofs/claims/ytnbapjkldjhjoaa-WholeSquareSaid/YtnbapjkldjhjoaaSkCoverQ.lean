/-
  Plain law: turned triangles; a greater picture.
-/
import Derived.Test.YtnbapjkldjhjoaaSkCoverH
set_option linter.unusedVariables false
set_option linter.unusedSimpArgs false
namespace Go.SK
/-! turned triangles; a greater picture -/
theorem lo3_turn (a b c : Int) : lo3 b c a = lo3 a b c := by unfold lo3; omega
theorem hi3_turn (a b c : Int) : hi3 b c a = hi3 a b c := by unfold hi3; omega
theorem lo3_flip (a b c : Int) : lo3 b a c = lo3 a b c := by unfold lo3; omega
theorem hi3_flip (a b c : Int) : hi3 b a c = hi3 a b c := by unfold hi3; omega
theorem covRows_turn (ax ay bx by_ cx cy wd ht : Int) : covRows bx by_ cx cy ax ay wd ht = covRows ax ay bx by_ cx cy wd ht := by
  have hb : boxV bx by_ cx cy ax ay wd ht = boxV ax ay bx by_ cx cy wd ht := by
    unfold boxV boxIs; rw [lo3_turn ax bx cx, lo3_turn ay by_ cy, hi3_turn ax bx cx, hi3_turn ay by_ cy]
  have hc : (fun y x => coversZ bx by_ cx cy ax ay x y) = (fun y x => coversZ ax ay bx by_ cx cy x y) := by
    funext y x; exact covers_turn _ _ _ _ _ _ _ _
  unfold covRows; rw [hb, hc]
theorem covRows_flip (ax ay bx by_ cx cy wd ht : Int) : covRows bx by_ ax ay cx cy wd ht = covRows ax ay bx by_ cx cy wd ht := by
  have hb : boxV bx by_ ax ay cx cy wd ht = boxV ax ay bx by_ cx cy wd ht := by
    unfold boxV boxIs; rw [lo3_flip ax bx cx, lo3_flip ay by_ cy, hi3_flip ax bx cx, hi3_flip ay by_ cy]
  have hc : (fun y x => coversZ bx by_ ax ay cx cy x y) = (fun y x => coversZ ax ay bx by_ cx cy x y) := by
    funext y x; exact covers_flip _ _ _ _ _ _ _ _
  unfold covRows; rw [hb, hc]
theorem covRows_sorted (ax ay bx by_ cx cy wd ht : Int) : (covRows ax ay bx by_ cx cy wd ht).Pairwise fun r q => r.1 < q.1 := by
  unfold covRows; split
  · exact rowsZ_sorted _ _ _ _ _
  · exact .nil
theorem sorted_ext : ∀ {l m : List (Int × Int × Int)}, l.Pairwise (fun r q => r.1 < q.1) → m.Pairwise (fun r q => r.1 < q.1) → (∀ r, r ∈ l ↔ r ∈ m) → l = m
  | [], [], _, _, _ => rfl
  | [], q :: m, _, _, h => absurd ((h q).2 (.head _)) (by simp)
  | r :: l, [], _, _, h => absurd ((h r).1 (.head _)) (by simp)
  | r :: l, q :: m, hl, hm, h => by
    have hl' := List.pairwise_cons.1 hl
    have hm' := List.pairwise_cons.1 hm
    have e : r = q := by
      rcases List.mem_cons.1 ((h r).1 (.head _)) with h1 | h1
      · exact h1
      · rcases List.mem_cons.1 ((h q).2 (.head _)) with h2 | h2
        · exact h2.symm
        · have := hm'.1 r h1; have := hl'.1 q h2; omega
    subst e
    congr 1
    refine sorted_ext hl'.2 hm'.2 fun s => ⟨fun hs => ?_, fun hs => ?_⟩
    · rcases List.mem_cons.1 ((h s).1 (.tail _ hs)) with h1 | h1
      · subst h1; have := hl'.1 s hs; omega
      · exact h1
    · rcases List.mem_cons.1 ((h s).2 (.tail _ hs)) with h1 | h1
      · subst h1; have := hm'.1 s hs; omega
      · exact h1
def clipZ (W H : Int) (r : Int × Int × Int) : Option (Int × Int × Int) := if H ≤ r.1 ∨ W ≤ r.2.1 then none else some (r.1, r.2.1, if W < r.2.2 then W else r.2.2)
theorem clip_rows {ax ay bx by_ cx cy W H W2 H2 : Int} (hp : Pic W H) (hp2 : Pic W2 H2) (hW : W ≤ W2) (hH : H ≤ H2) : (covRows ax ay bx by_ cx cy W2 H2).filterMap (clipZ W H) = covRows ax ay bx by_ cx cy W H := by
  refine sorted_ext ?_ (covRows_sorted _ _ _ _ _ _ _ _) fun r => ?_
  · rw [List.pairwise_filterMap]
    refine (covRows_sorted ax ay bx by_ cx cy W2 H2).imp fun {a b} hab x hx y hy => ?_
    unfold clipZ at hx hy
    split at hx
    · cases hx
    · split at hy
      · cases hy
      · simp only [Option.some.injEq] at hx hy
        subst hx; subst hy; exact hab
  · rw [List.mem_filterMap, mem_covRows hp]
    constructor
    · rintro ⟨q, hq, hc⟩
      obtain ⟨m1, m2, m3⟩ := (mem_covRows hp2).1 hq
      obtain ⟨q1, q2, q3, q4, q5, q6⟩ := m3.yes m2
      unfold clipZ at hc
      split at hc
      · cases hc
      · rename_i hn
        simp only [Option.some.injEq] at hc
        subst hc
        try simp only
        have hlast : coversZ ax ay bx by_ cx cy ((if W < q.2.2 then W else q.2.2) - 1) q.1 = true := by
          refine coversZ_conv (x1 := q.2.1) (x3 := q.2.2 - 1) ?_ ?_ q3 q4 <;> split <;> omega
        refine ⟨by omega, by split <;> omega, fun _ => ⟨q1, by split <;> omega, q3, hlast, q5, fun x hx hxb => ?_⟩, fun h => by exfalso; split at h <;> omega⟩
        split at hx
        · omega
        · exact q6 x hx (by omega)
    · rintro ⟨m1, m2, m3⟩
      obtain ⟨q1, q2, q3, q4, q5, q6⟩ := m3.yes m2
      have hs := rowAt_self (fun x => coversZ ax ay bx by_ cx cy x r.1) 0 W2
      generalize (0 : Int) + (fstN (fun x => coversZ ax ay bx by_ cx cy x r.1) 0 (W2 - 0).toNat : Int) = F at hs
      generalize (if lstN (fun x => coversZ ax ay bx by_ cx cy x r.1) 0 (W2 - 0).toNat = 0 then F else 0 + (lstN (fun x => coversZ ax ay bx by_ cx cy x r.1) 0 (W2 - 0).toNat : Int)) = T at hs
      have hlt : F < T := Classical.byContradiction fun hn => by
        have := hs.no hn r.2.1 q1 (by omega)
        (try simp only at this q3); rw [q3] at this; cases this
      obtain ⟨p1, p2, p3, p4, p5, p6⟩ := hs.yes hlt
      have eF : F = r.2.1 := by
        rcases Int.lt_trichotomy F r.2.1 with h | h | h
        · have := q5 F p1 h; (try simp only at this p3); rw [p3] at this; cases this
        · exact h
        · have := p5 r.2.1 q1 h; (try simp only at this q3); rw [q3] at this; cases this
      have hT : r.2.2 - 1 < T := Classical.byContradiction fun hn => by
        have := p6 (r.2.2 - 1) (by omega) (by omega); (try simp only at this q4); rw [q4] at this; cases this
      have eT : (if W < T then W else T) = r.2.2 := by
        split
        · rename_i hWT
          refine Classical.byContradiction fun hne => ?_
          have hc : coversZ ax ay bx by_ cx cy (W - 1) r.1 = true := coversZ_conv (x1 := F) (x3 := T - 1) (by omega) (by omega) p3 p4
          have := q6 (W - 1) (by omega) (by omega); (try simp only at this); rw [hc] at this; cases this
        · refine Classical.byContradiction fun hne => ?_
          have := q6 (T - 1) (by omega) (by omega); (try simp only at this p4); rw [p4] at this; cases this
      refine ⟨(r.1, F, T), (mem_covRows hp2).2 ⟨by dsimp only; omega, hlt, hs⟩, ?_⟩
      unfold clipZ
      try simp only
      rw [if_neg (by omega), eT, eF]
def clipN (W H : Int) (c : List (Int × Int × Int)) (i : Nat) : Nat := ((c.take i).filterMap (clipZ W H)).length
theorem take_succ_getD {c : List (Int × Int × Int)} {i : Nat} (hi : i < c.length) : c.take (i + 1) = c.take i ++ [c.getD i (0, 0, 0)] := by
  rw [List.take_add_one]; simp [List.getD, hi]
theorem clip_skip {W H : Int} {c : List (Int × Int × Int)} {i : Nat} (hi : i < c.length) (hr : clipZ W H (c.getD i (0, 0, 0)) = none) : clipN W H c i = clipN W H c (i + 1) := by
  unfold clipN; rw [take_succ_getD hi, List.filterMap_append, List.filterMap_cons_none hr]; simp
theorem clip_step {W H : Int} {c l : List (Int × Int × Int)} (hcl : c.filterMap (clipZ W H) = l) {i : Nat} (hi : i < c.length) {r : Int × Int × Int} (hr : clipZ W H (c.getD i (0, 0, 0)) = some r) :
    clipN W H c i < l.length ∧ l.getD (clipN W H c i) (0, 0, 0) = r ∧ clipN W H c i + 1 = clipN W H c (i + 1) := by
  have e : l = (c.take i).filterMap (clipZ W H) ++ r :: (c.drop (i + 1)).filterMap (clipZ W H) := by
    rw [← hcl]
    conv => lhs; rw [← List.take_append_drop (i + 1) c, take_succ_getD hi]
    rw [List.filterMap_append, List.filterMap_append, List.filterMap_cons_some hr]
    simp
  refine ⟨?_, ?_, ?_⟩
  · rw [e]; unfold clipN; simp
  · rw [e]; unfold clipN; simp [List.getD]
  · unfold clipN; rw [take_succ_getD hi, List.filterMap_append, List.filterMap_cons_some hr]; simp
theorem clip_end {W H : Int} {c l : List (Int × Int × Int)} (hcl : c.filterMap (clipZ W H) = l) : clipN W H c c.length = l.length := by
  unfold clipN; rw [List.take_length, hcl]
theorem clipN_le (W H : Int) (c : List (Int × Int × Int)) (i : Nat) : clipN W H c i ≤ i := by
  unfold clipN
  exact Nat.le_trans (List.length_filterMap_le _ _) (by rw [List.length_take]; omega)
end Go.SK
