/-
  Walks of functions, and of the laws over them.
-/
import Derived.Test.YtnbapjkldjhjoaaSkFacts1
import Derived.Test.YtnbapjkldjhjoaaSkFacts2
import Derived.Test.YtnbapjkldjhjoaaSkCoverG
set_option linter.unusedVariables false
set_option linter.unusedSimpArgs false
namespace Go.SK
open Go Go.Proofs
open Go.RowKit
theorem rowsZ_sorted (p : Int → Int → Bool) (a b y0 : Int) : ∀ k, (rowsZ p a b y0 k).Pairwise fun r q => r.1 < q.1
  | 0 => .nil
  | k + 1 => by
    simp only [rowsZ]
    refine List.pairwise_append.2 ⟨rowsZ_sorted p a b y0 k, ?_, fun r hr q hq => ?_⟩
    · unfold rowAt; split
      · exact .nil
      · exact List.pairwise_singleton _ _
    · have h1 := (mem_rowsZ.1 hr).1
      have h2 := (mem_rowAt.1 hq).1
      omega
structure RowF (ax ay bx by_ cx cy wd ht x0 x1 y0 y1 : Int) (l : List (Int × Int × Int)) (j : Nat) : Prop where
  sort : ∀ k, k + 1 = j → (l.getD k (0, 0, 0)).1 < (l.getD j (0, 0, 0)).1
  num : (l.getD j (0, 0, 0)).2.1 < (l.getD j (0, 0, 0)).2.2 ∧ y0 ≤ (l.getD j (0, 0, 0)).1 ∧ (l.getD j (0, 0, 0)).1 < y1 ∧ x0 ≤ (l.getD j (0, 0, 0)).2.1 ∧ (l.getD j (0, 0, 0)).2.2 ≤ x1
  is : boxIs ax ay bx by_ cx cy wd ht = true
  c1 : coversZ ax ay bx by_ cx cy (l.getD j (0, 0, 0)).2.1 (l.getD j (0, 0, 0)).1 = true
  c2 : coversZ ax ay bx by_ cx cy ((l.getD j (0, 0, 0)).2.2 - 1) (l.getD j (0, 0, 0)).1 = true
  c3 : 0 < (l.getD j (0, 0, 0)).2.1 → coversZ ax ay bx by_ cx cy ((l.getD j (0, 0, 0)).2.1 - 1) (l.getD j (0, 0, 0)).1 = false
  c4 : (l.getD j (0, 0, 0)).2.2 < wd → coversZ ax ay bx by_ cx cy (l.getD j (0, 0, 0)).2.2 (l.getD j (0, 0, 0)).1 = false
theorem row_facts {ax ay bx by_ cx cy wd ht x0 x1 y0 y1 : Int} {l : List (Int × Int × Int)} (hp : Pic wd ht) (hB : boxV ax ay bx by_ cx cy wd ht = (x0, x1, y0, y1)) (hl : covRows ax ay bx by_ cx cy wd ht = l) {j : Nat} (hj : j < l.length) :
    RowF ax ay bx by_ cx cy wd ht x0 x1 y0 y1 l j := by
  have hm := getD_mem hl hj
  obtain ⟨m1, m2, m3⟩ := (mem_covRows hp).1 hm
  obtain ⟨q1, q2, q3, q4, q5, q6⟩ := m3.yes m2
  have hz := rows_of_box hp hB
  have hm' := hm
  rw [hz] at hm'
  obtain ⟨z1, z2, z3⟩ := mem_rowsZ.1 hm'
  have z4 := z3.yes z2
  have hbd := box_bd hB
  refine ⟨fun k hk => ?_, ⟨m2, by omega, by omega, z4.1, z4.2.1⟩, ?_, q3, q4, fun h => q5 _ (by omega) (by omega), fun h => q6 _ (by omega) h⟩
  · have hs := rowsZ_sorted (fun y x => coversZ ax ay bx by_ cx cy x y) x0 x1 y0 (y1 - y0).toNat
    rw [← hz, hl] at hs
    have := List.pairwise_iff_getElem.1 hs k j (by omega) hj (by omega)
    simpa [List.getD, hj, show k < l.length by omega] using this
  · cases hi : boxIs ax ay bx by_ cx cy wd ht with
    | true => rfl
    | false =>
      unfold boxV at hB
      rw [hi] at hB
      simp only [Bool.false_eq_true, if_false, Prod.mk.injEq] at hB
      omega
theorem step_has {l : List (Int × Int × Int)} {x y : Int} {i : Nat} (h : ∀ j, j < i → ¬ ((l.getD j (0, 0, 0)).1 = y ∧ (l.getD j (0, 0, 0)).2.1 ≤ x ∧ x < (l.getD j (0, 0, 0)).2.2)) (e : ¬ ((l.getD i (0, 0, 0)).1 = y ∧ (l.getD i (0, 0, 0)).2.1 ≤ x ∧ x < (l.getD i (0, 0, 0)).2.2)) : ∀ j, j < i + 1 → ¬ ((l.getD j (0, 0, 0)).1 = y ∧ (l.getD j (0, 0, 0)).2.1 ≤ x ∧ x < (l.getD j (0, 0, 0)).2.2) := fun j hj => by
  by_cases hji : j = i
  · rw [hji]; exact e
  · exact h j (by omega)
theorem law28_has (l : List (Int × Int × Int)) (ao : Option Addr) (cp : Nat) (x y : Int) (w : World) (hA : (Res.sl ao l.length cp 56 3 (l.flatMap rowC)).holds w) (hll : l.length ≤ 1024) : Ret Try.prog 46 #[.slice ao l.length cp, .int .i64 x, .int .i64 y] w (fun v w' => v = .bool (hasZ l x y) ∧ St w NoM [] [] w') := by
  refine Ret.enter (args := [.slice ao l.length cp, .int .i64 x, .int .i64 y]) Try.func46 rfl rfl rfl ?_
  have hst : St w NoM [] [Res.sl ao l.length cp 56 3 (l.flatMap rowC)] w := St.init_D hA
  clear hA
  refine run_seq ?_
  refine run_region ?_
  refine RunL.cons (Op1.assign (v := .bool _) rfl ?_)
  refine RunL.nil ?_
  refine run_seq ?_
  refine run_seq ?_
  refine run_region ?_
  refine RunL.cons (Op1.assign (v := .int .i64 _) rfl ?_)
  refine RunL.nil ?_
  refine run_block ?_
  refine run_loop ?_
  have sta1 := hst.static (L1 := [])
  replace hst := hst.toD (L1 := [])
  refine Run.indS (fun (i : Nat) => [(7, .int .i64 (i : Int))]) [0, 1, 2] (fun (i : Nat) => []) (fun (i : Nat) => i ≤ l.length ∧ ∀ j, j < i → ¬ ((l.getD j (0, 0, 0)).1 = y ∧ (l.getD j (0, 0, 0)).2.1 ≤ x ∧ x < (l.getD j (0, 0, 0)).2.2)) (fun (i : Nat) => l.length - i) 0 hst ⟨Nat.zero_le _, fun j hj => absurd hj (by omega)⟩ ⟨rfl, trivial⟩ (Keep.refl _ _) ?_
  intro i f w kf2 hst hJ ih3
  replace hst := hst.back sta1
  refine Run.slots (sl := [(0, .slice _ _ _), (1, .int .i64 _), (2, .int .i64 _)]) ⟨(kf2.get 0 rfl).trans rfl, (kf2.get 1 rfl).trans rfl, (kf2.get 2 rfl).trans rfl, trivial⟩ ?_
  refine run_seq ?_
  refine run_seq ?_
  refine run_region ?_
  refine RunL.cons (Op1.move (v := .int .i64 _) rfl ?_)
  refine RunL.cons (Op1.move (v := .slice _ _ _) rfl ?_)
  refine RunL.cons (Op1.lenSl (rest := []) ty50 rfl ?_)
  refine RunL.cons (Op1.lss rfl rfl ?_)
  refine RunL.nil ?_
  refine run_cond_dec rfl (fun g4 => ?_) (fun g4 => ?_)
  · skip
    refine run_skip ?_
    refine run_seq ?_
    refine run_block ?_
    refine run_seq ?_
    refine run_region ?_
    refine RunL.cons (Op1.move (v := .slice _ _ _) rfl ?_)
    refine RunL.cons (Op1.move (v := .int .i64 _) rfl ?_)
    obtain ⟨bs5, rfl⟩ := Res.sl_some (hst.hD _ (.head _)) (by omega)
    refine RunL.cons (Op1.indexSl ty50 ty56 rfl rfl (by omega) (by omega) ?_)
    refine RunL.cons (Op1.fieldAddr fld56_0 rfl ?_)
    refine RunL.cons (Op1.load1 (v := .int .i64 _) ty3 rfl rfl (Res.sl_cell (hst.hD _ (.head _)) (flat_cell (g := rowC) (d := (0, 0, 0)) rowC_len rfl (by omega))) ?_)
    refine RunL.cons (Op1.move (v := .int .i64 _) rfl ?_)
    refine RunL.cons (Op1.eql rfl rfl ?_)
    refine RunL.cons (Op1.move (v := .bool _) rfl ?_)
    refine RunL.splitD (d := 21) rfl (fun g6 => ?_) (fun g6 => ?_)
    · skip
      refine RunL.take (t := 21) rfl (congrArg Value.bool (decide_eq_true g6)) (Op1.move (v := .int .i64 _) rfl ?_)
      refine RunL.take (t := 21) rfl (congrArg Value.bool (decide_eq_true g6)) (Op1.move (v := .slice _ _ _) rfl ?_)
      refine RunL.take (t := 21) rfl (congrArg Value.bool (decide_eq_true g6)) (Op1.move (v := .int .i64 _) rfl ?_)
      refine RunL.take (t := 21) rfl (congrArg Value.bool (decide_eq_true g6)) (Op1.indexSl ty50 ty56 rfl rfl (by omega) (by omega) ?_)
      refine RunL.take (t := 21) rfl (congrArg Value.bool (decide_eq_true g6)) (Op1.fieldAddr fld56_1 rfl ?_)
      refine RunL.take (t := 21) rfl (congrArg Value.bool (decide_eq_true g6)) (Op1.load1 (v := .int .i64 _) ty3 rfl rfl (Res.sl_cell (hst.hD _ (.head _)) (flat_cell (g := rowC) (d := (0, 0, 0)) rowC_len rfl (by omega))) ?_)
      refine RunL.take (t := 21) rfl (congrArg Value.bool (decide_eq_true g6)) (Op1.geq rfl rfl ?_)
      refine RunL.cons (Op1.pickT (u := .bool _) (congrArg Value.bool (decide_eq_true g6)) rfl ?_)
      refine RunL.cons (Op1.move (v := .bool _) rfl ?_)
      refine RunL.splitD (d := 30) rfl (fun g7 => ?_) (fun g7 => ?_)
      · skip
        refine RunL.take (t := 30) rfl (congrArg Value.bool (decide_eq_true g7)) (Op1.move (v := .int .i64 _) rfl ?_)
        refine RunL.take (t := 30) rfl (congrArg Value.bool (decide_eq_true g7)) (Op1.move (v := .slice _ _ _) rfl ?_)
        refine RunL.take (t := 30) rfl (congrArg Value.bool (decide_eq_true g7)) (Op1.move (v := .int .i64 _) rfl ?_)
        refine RunL.take (t := 30) rfl (congrArg Value.bool (decide_eq_true g7)) (Op1.indexSl ty50 ty56 rfl rfl (by omega) (by omega) ?_)
        refine RunL.take (t := 30) rfl (congrArg Value.bool (decide_eq_true g7)) (Op1.fieldAddr fld56_2 rfl ?_)
        refine RunL.take (t := 30) rfl (congrArg Value.bool (decide_eq_true g7)) (Op1.load1 (v := .int .i64 _) ty3 rfl rfl (Res.sl_cell (hst.hD _ (.head _)) (flat_cell (g := rowC) (d := (0, 0, 0)) rowC_len rfl (by omega))) ?_)
        refine RunL.take (t := 30) rfl (congrArg Value.bool (decide_eq_true g7)) (Op1.lss rfl rfl ?_)
        refine RunL.cons (Op1.pickT (u := .bool _) (congrArg Value.bool (decide_eq_true g7)) rfl ?_)
        refine RunL.nil ?_
        refine run_cond_dec rfl (fun g8 => ?_) (fun g8 => ?_)
        · skip
          refine run_seq ?_
          refine run_region ?_
          refine RunL.cons (Op1.assign (v := .bool _) rfl ?_)
          refine RunL.nil ?_
          refine run_ret1 Try.func46 rfl (RV.tmp (v := .bool _) rfl) ?_
          exact ⟨congrArg Value.bool (has_true (i := ((i : Int)).toNat) (by omega) ⟨by omega, by omega, by omega⟩).symm, hst.pure⟩
        · skip
          refine run_skip ?_
          refine run_inBlock ?_
          refine run_region ?_
          refine RunL.cons (Op1.move (v := .int .i64 _) rfl ?_)
          refine RunL.cons (Op1.addN rfl rfl rfl (wrap_i64 (by omega) (by omega)) ?_)
          refine RunL.cons (Op1.assign (v := .int .i64 _) rfl ?_)
          refine RunL.nil ?_
          refine run_inLoop ?_
          replace hst := hst.toD (L1 := [])
          exact ih3 (i + 1) _ w (by omega) hst (⟨by omega, step_has hJ.2 (by simp only [Int.toNat_natCast] at *; omega)⟩) ⟨rfl, rfl, rfl, trivial⟩ ⟨(congrArg (Value.int .i64) (by omega)), trivial⟩
      · skip
        refine RunL.omit (t := 30) rfl (congrArg Value.bool (decide_eq_false g7)) rfl ?_
        refine RunL.omit (t := 30) rfl (congrArg Value.bool (decide_eq_false g7)) rfl ?_
        refine RunL.omit (t := 30) rfl (congrArg Value.bool (decide_eq_false g7)) rfl ?_
        refine RunL.omit (t := 30) rfl (congrArg Value.bool (decide_eq_false g7)) rfl ?_
        refine RunL.omit (t := 30) rfl (congrArg Value.bool (decide_eq_false g7)) rfl ?_
        refine RunL.omit (t := 30) rfl (congrArg Value.bool (decide_eq_false g7)) rfl ?_
        refine RunL.omit (t := 30) rfl (congrArg Value.bool (decide_eq_false g7)) rfl ?_
        refine RunL.cons (Op1.pickF (u := .bool _) (congrArg Value.bool (decide_eq_false g7)) rfl ?_)
        refine RunL.nil ?_
        refine run_cond_false (congrArg Value.bool (rfl : false = _)) ?_
        refine run_skip ?_
        refine run_inBlock ?_
        refine run_region ?_
        refine RunL.cons (Op1.move (v := .int .i64 _) rfl ?_)
        refine RunL.cons (Op1.addN rfl rfl rfl (wrap_i64 (by omega) (by omega)) ?_)
        refine RunL.cons (Op1.assign (v := .int .i64 _) rfl ?_)
        refine RunL.nil ?_
        refine run_inLoop ?_
        replace hst := hst.toD (L1 := [])
        exact ih3 (i + 1) _ w (by omega) hst (⟨by omega, step_has hJ.2 (by simp only [Int.toNat_natCast] at *; omega)⟩) ⟨rfl, rfl, rfl, trivial⟩ ⟨(congrArg (Value.int .i64) (by omega)), trivial⟩
    · skip
      refine RunL.omit (t := 21) rfl (congrArg Value.bool (decide_eq_false g6)) rfl ?_
      refine RunL.omit (t := 21) rfl (congrArg Value.bool (decide_eq_false g6)) rfl ?_
      refine RunL.omit (t := 21) rfl (congrArg Value.bool (decide_eq_false g6)) rfl ?_
      refine RunL.omit (t := 21) rfl (congrArg Value.bool (decide_eq_false g6)) rfl ?_
      refine RunL.omit (t := 21) rfl (congrArg Value.bool (decide_eq_false g6)) rfl ?_
      refine RunL.omit (t := 21) rfl (congrArg Value.bool (decide_eq_false g6)) rfl ?_
      refine RunL.omit (t := 21) rfl (congrArg Value.bool (decide_eq_false g6)) rfl ?_
      refine RunL.cons (Op1.pickF (u := .bool _) (congrArg Value.bool (decide_eq_false g6)) rfl ?_)
      refine RunL.cons (Op1.move (v := .bool _) rfl ?_)
      refine RunL.omit (t := 30) rfl (congrArg Value.bool (rfl : false = _)) rfl ?_
      refine RunL.omit (t := 30) rfl (congrArg Value.bool (rfl : false = _)) rfl ?_
      refine RunL.omit (t := 30) rfl (congrArg Value.bool (rfl : false = _)) rfl ?_
      refine RunL.omit (t := 30) rfl (congrArg Value.bool (rfl : false = _)) rfl ?_
      refine RunL.omit (t := 30) rfl (congrArg Value.bool (rfl : false = _)) rfl ?_
      refine RunL.omit (t := 30) rfl (congrArg Value.bool (rfl : false = _)) rfl ?_
      refine RunL.omit (t := 30) rfl (congrArg Value.bool (rfl : false = _)) rfl ?_
      refine RunL.cons (Op1.pickF (u := .bool _) (congrArg Value.bool (rfl : false = _)) rfl ?_)
      refine RunL.nil ?_
      refine run_cond_false (congrArg Value.bool (rfl : false = _)) ?_
      refine run_skip ?_
      refine run_inBlock ?_
      refine run_region ?_
      refine RunL.cons (Op1.move (v := .int .i64 _) rfl ?_)
      refine RunL.cons (Op1.addN rfl rfl rfl (wrap_i64 (by omega) (by omega)) ?_)
      refine RunL.cons (Op1.assign (v := .int .i64 _) rfl ?_)
      refine RunL.nil ?_
      refine run_inLoop ?_
      replace hst := hst.toD (L1 := [])
      exact ih3 (i + 1) _ w (by omega) hst (⟨by omega, step_has hJ.2 (by simp only [Int.toNat_natCast] at *; omega)⟩) ⟨rfl, rfl, rfl, trivial⟩ ⟨(congrArg (Value.int .i64) (by omega)), trivial⟩
  · skip
    refine run_exit (id := 0) rfl ?_
    refine run_seq ?_
    refine run_region ?_
    refine RunL.cons (Op1.assign (v := .bool _) rfl ?_)
    refine RunL.nil ?_
    refine run_ret1 Try.func46 rfl (RV.tmp (v := .bool _) rfl) ?_
    exact ⟨congrArg Value.bool (has_false (fun j hj => hJ.2 j (by omega))).symm, hst.pure⟩

end Go.SK
