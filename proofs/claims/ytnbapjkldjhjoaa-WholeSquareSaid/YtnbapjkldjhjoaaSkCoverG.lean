/-
  Walks of functions, and of the laws over them.
-/
import Derived.Test.YtnbapjkldjhjoaaSkFacts1
import Derived.Test.YtnbapjkldjhjoaaSkFacts2
import Derived.Test.YtnbapjkldjhjoaaSkEdgeF
import Derived.Test.YtnbapjkldjhjoaaSkCoverP
set_option linter.unusedVariables false
set_option linter.unusedSimpArgs false
namespace Go.SK
open Go Go.Proofs
open Go.RowKit
theorem errZ_pic (wd ht : Int) : errZ wd ht = 0 ↔ (1 ≤ wd ∧ wd ≤ 1024 ∧ 1 ≤ ht ∧ ht ≤ 1024) := by
  unfold errZ; by_cases h : 1 ≤ wd ∧ wd ≤ 1024 ∧ 1 ≤ ht ∧ ht ≤ 1024
  · rw [if_pos h]; exact ⟨fun _ => h, fun _ => rfl⟩
  · rw [if_neg h]; exact ⟨fun e => by omega, fun e => absurd e h⟩
theorem getD_mem {l m : List (Int × Int × Int)} (hl : m = l) {i : Nat} (hi : i < l.length) : l.getD i (0, 0, 0) ∈ m := by
  subst hl
  simp only [List.getD, List.getElem?_eq_getElem hi, Option.getD_some]
  exact List.getElem_mem hi
theorem cov_overlap {ax ay bx by_ cx cy dx dy wd ht : Int} (hs : ¬ (0 < sideZ ax ay bx by_ cx cy ∧ 0 < sideZ ax ay bx by_ dx dy) ∧ ¬ (sideZ ax ay bx by_ cx cy < 0 ∧ sideZ ax ay bx by_ dx dy < 0))
    {r q : Int × Int × Int} (hr : r ∈ covRows ax ay bx by_ cx cy wd ht) (hq : q ∈ covRows bx by_ ax ay dx dy wd ht) (h1 : r.1 = q.1) (h2 : r.2.1 < q.2.2) (h3 : q.2.1 < r.2.2) : False := by
  by_cases hp : Pic wd ht
  · obtain ⟨m1, m2, m3⟩ := (mem_covRows hp).1 hr
    obtain ⟨q1, q2, q3, q4, q5, q6⟩ := m3.yes m2
    obtain ⟨n1, n2, n3⟩ := (mem_covRows hp).1 hq
    obtain ⟨p1, p2, p3, p4, p5, p6⟩ := n3.yes n2
    have c1 : coversZ ax ay bx by_ cx cy (max r.2.1 q.2.1) r.1 = true := coversZ_conv (by omega) (by omega) q3 q4
    have c2 : coversZ bx by_ ax ay dx dy (max r.2.1 q.2.1) q.1 = true := coversZ_conv (by omega) (by omega) p3 p4
    rw [← h1] at c2
    have e := side_flip ax ay bx by_ dx dy
    have d1 := (covers_cases c1).2
    have d2 := (covers_cases c2).2
    have s1 : sideZ ax ay bx by_ cx cy ≠ 0 := by rcases d1 with d1 | d1 <;> omega
    have s2 : sideZ bx by_ ax ay dx dy ≠ 0 := by rcases d2 with d2 | d2 <;> omega
    exact shared_not (by omega) c1 c2
  · rw [rows_no hp] at hr; cases hr
theorem law28_picture (a b : Int) (w : World) : Ret Try.prog 45 #[.int .i64 a, .int .i64 b] w (fun v w' => v = .bool (decide (1 ≤ a ∧ a ≤ 1024 ∧ 1 ≤ b ∧ b ≤ 1024)) ∧ St w NoM [] [] w') := by
  refine Ret.enter (args := [.int .i64 a, .int .i64 b]) Try.func45 rfl rfl rfl ?_
  have hst := St.init w
  refine run_seq ?_
  refine run_region ?_
  refine RunL.cons (Op1.assign (v := .bool _) rfl ?_)
  refine RunL.nil ?_
  refine run_seq ?_
  refine run_region ?_
  refine RunL.cons (Op1.move (v := .int .i64 _) rfl ?_)
  refine RunL.cons (Op1.geq rfl rfl ?_)
  refine RunL.cons (Op1.move (v := .bool _) rfl ?_)
  refine RunL.splitD (d := 7) rfl (fun g1 => ?_) (fun g1 => ?_)
  · skip
    refine RunL.take (t := 7) rfl (congrArg Value.bool (decide_eq_true g1)) (Op1.move (v := .int .i64 _) rfl ?_)
    refine RunL.take (t := 7) rfl (congrArg Value.bool (decide_eq_true g1)) (Op1.leq rfl rfl ?_)
    refine RunL.cons (Op1.pickT (u := .bool _) (congrArg Value.bool (decide_eq_true g1)) rfl ?_)
    refine RunL.cons (Op1.move (v := .bool _) rfl ?_)
    refine RunL.splitD (d := 11) rfl (fun g2 => ?_) (fun g2 => ?_)
    · skip
      refine RunL.take (t := 11) rfl (congrArg Value.bool (decide_eq_true g2)) (Op1.move (v := .int .i64 _) rfl ?_)
      refine RunL.take (t := 11) rfl (congrArg Value.bool (decide_eq_true g2)) (Op1.geq rfl rfl ?_)
      refine RunL.cons (Op1.pickT (u := .bool _) (congrArg Value.bool (decide_eq_true g2)) rfl ?_)
      refine RunL.cons (Op1.move (v := .bool _) rfl ?_)
      refine RunL.splitD (d := 15) rfl (fun g3 => ?_) (fun g3 => ?_)
      · skip
        refine RunL.take (t := 15) rfl (congrArg Value.bool (decide_eq_true g3)) (Op1.move (v := .int .i64 _) rfl ?_)
        refine RunL.take (t := 15) rfl (congrArg Value.bool (decide_eq_true g3)) (Op1.leq rfl rfl ?_)
        refine RunL.cons (Op1.pickT (u := .bool _) (congrArg Value.bool (decide_eq_true g3)) rfl ?_)
        refine RunL.cons (Op1.assign (v := .bool _) rfl ?_)
        refine RunL.nil ?_
        refine run_ret1 Try.func45 rfl (RV.tmp (v := .bool _) rfl) ?_
        refine ⟨congrArg Value.bool ?_, hst.pure⟩
        first | (rw [decide_eq_decide]; omega) | exact (decide_eq_false (by omega)).symm | exact (decide_eq_true (by omega)).symm
      · skip
        refine RunL.omit (t := 15) rfl (congrArg Value.bool (decide_eq_false g3)) rfl ?_
        refine RunL.omit (t := 15) rfl (congrArg Value.bool (decide_eq_false g3)) rfl ?_
        refine RunL.cons (Op1.pickF (u := .bool _) (congrArg Value.bool (decide_eq_false g3)) rfl ?_)
        refine RunL.cons (Op1.assign (v := .bool _) rfl ?_)
        refine RunL.nil ?_
        refine run_ret1 Try.func45 rfl (RV.tmp (v := .bool _) rfl) ?_
        refine ⟨congrArg Value.bool ?_, hst.pure⟩
        first | (rw [decide_eq_decide]; omega) | exact (decide_eq_false (by omega)).symm | exact (decide_eq_true (by omega)).symm
    · skip
      refine RunL.omit (t := 11) rfl (congrArg Value.bool (decide_eq_false g2)) rfl ?_
      refine RunL.omit (t := 11) rfl (congrArg Value.bool (decide_eq_false g2)) rfl ?_
      refine RunL.cons (Op1.pickF (u := .bool _) (congrArg Value.bool (decide_eq_false g2)) rfl ?_)
      refine RunL.cons (Op1.move (v := .bool _) rfl ?_)
      refine RunL.omit (t := 15) rfl (congrArg Value.bool (rfl : false = _)) rfl ?_
      refine RunL.omit (t := 15) rfl (congrArg Value.bool (rfl : false = _)) rfl ?_
      refine RunL.cons (Op1.pickF (u := .bool _) (congrArg Value.bool (rfl : false = _)) rfl ?_)
      refine RunL.cons (Op1.assign (v := .bool _) rfl ?_)
      refine RunL.nil ?_
      refine run_ret1 Try.func45 rfl (RV.tmp (v := .bool _) rfl) ?_
      refine ⟨congrArg Value.bool ?_, hst.pure⟩
      first | (rw [decide_eq_decide]; omega) | exact (decide_eq_false (by omega)).symm | exact (decide_eq_true (by omega)).symm
  · skip
    refine RunL.omit (t := 7) rfl (congrArg Value.bool (decide_eq_false g1)) rfl ?_
    refine RunL.omit (t := 7) rfl (congrArg Value.bool (decide_eq_false g1)) rfl ?_
    refine RunL.cons (Op1.pickF (u := .bool _) (congrArg Value.bool (decide_eq_false g1)) rfl ?_)
    refine RunL.cons (Op1.move (v := .bool _) rfl ?_)
    refine RunL.omit (t := 11) rfl (congrArg Value.bool (rfl : false = _)) rfl ?_
    refine RunL.omit (t := 11) rfl (congrArg Value.bool (rfl : false = _)) rfl ?_
    refine RunL.cons (Op1.pickF (u := .bool _) (congrArg Value.bool (rfl : false = _)) rfl ?_)
    refine RunL.cons (Op1.move (v := .bool _) rfl ?_)
    refine RunL.omit (t := 15) rfl (congrArg Value.bool (rfl : false = _)) rfl ?_
    refine RunL.omit (t := 15) rfl (congrArg Value.bool (rfl : false = _)) rfl ?_
    refine RunL.cons (Op1.pickF (u := .bool _) (congrArg Value.bool (rfl : false = _)) rfl ?_)
    refine RunL.cons (Op1.assign (v := .bool _) rfl ?_)
    refine RunL.nil ?_
    refine run_ret1 Try.func45 rfl (RV.tmp (v := .bool _) rfl) ?_
    refine ⟨congrArg Value.bool ?_, hst.pure⟩
    first | (rw [decide_eq_decide]; omega) | exact (decide_eq_false (by omega)).symm | exact (decide_eq_true (by omega)).symm

theorem law_CoverShared (ax ay az bx by_ bz cx cy cz dx dy dz wd ht : Int) (w : World) : Ret Try.prog 17 #[.agg #[.int .i32 ax, .int .i32 ay, .int .i32 az], .agg #[.int .i32 bx, .int .i32 by_, .int .i32 bz], .agg #[.int .i32 cx, .int .i32 cy, .int .i32 cz], .agg #[.int .i32 dx, .int .i32 dy, .int .i32 dz], .int .i64 wd, .int .i64 ht] w (fun v w' => v = .bool true ∧ St w NoM [] [] w') := by
  refine Ret.enter (args := [.agg #[.int .i32 ax, .int .i32 ay, .int .i32 az], .agg #[.int .i32 bx, .int .i32 by_, .int .i32 bz], .agg #[.int .i32 cx, .int .i32 cy, .int .i32 cz], .agg #[.int .i32 dx, .int .i32 dy, .int .i32 dz], .int .i64 wd, .int .i64 ht]) Try.func17 rfl rfl rfl ?_
  have hst := St.init w
  obtain ⟨l, hl⟩ : ∃ l, covRows (clampZ ax) (clampZ ay) (clampZ bx) (clampZ by_) (clampZ cx) (clampZ cy) wd ht = l := ⟨_, rfl⟩
  obtain ⟨m, hm⟩ : ∃ m, covRows (clampZ bx) (clampZ by_) (clampZ ax) (clampZ ay) (clampZ dx) (clampZ dy) wd ht = m := ⟨_, rfl⟩
  have hbl := (covRows_bd (clampZ ax) (clampZ ay) (clampZ bx) (clampZ by_) (clampZ cx) (clampZ cy) wd ht).1
  have hbm := (covRows_bd (clampZ bx) (clampZ by_) (clampZ ax) (clampZ ay) (clampZ dx) (clampZ dy) wd ht).1
  rw [hl] at hbl
  rw [hm] at hbm
  refine run_seq ?_
  refine run_region ?_
  refine RunL.cons (Op1.box (v := .agg #[.int .i32 _, .int .i32 _, .int .i32 _]) hst rfl rfl fun w b6 hst => ?_)
  refine RunL.cons (Op1.box (v := .agg #[.int .i32 _, .int .i32 _, .int .i32 _]) hst rfl rfl fun w b7 hst => ?_)
  refine RunL.cons (Op1.box (v := .agg #[.int .i32 _, .int .i32 _, .int .i32 _]) hst rfl rfl fun w b8 hst => ?_)
  refine RunL.cons (Op1.box (v := .agg #[.int .i32 _, .int .i32 _, .int .i32 _]) hst rfl rfl fun w b9 hst => ?_)
  refine RunL.cons (Op1.assign (v := .bool _) rfl ?_)
  refine RunL.nil ?_
  refine run_seq ?_
  refine run_region ?_
  refine RunL.cons (Op1.loadA (vs := [.int .i32 _, .int .i32 _, .int .i32 _]) ty25 rfl rfl rfl (cells_of_obj (n := 3) (hst.objL (.tail _ (.tail _ (.tail _ (.head _))))) _ rfl) ?_)
  refine RunL.cons (Op1.loadA (vs := [.int .i32 _, .int .i32 _, .int .i32 _]) ty25 rfl rfl rfl (cells_of_obj (n := 3) (hst.objL (.tail _ (.tail _ (.head _)))) _ rfl) ?_)
  refine RunL.cons (Op1.loadA (vs := [.int .i32 _, .int .i32 _, .int .i32 _]) ty25 rfl rfl rfl (cells_of_obj (n := 3) (hst.objL (.tail _ (.head _))) _ rfl) ?_)
  refine RunL.cons (Op1.call3 (v1 := .agg #[.int .i32 _, .int .i32 _, .int .i32 _]) (v2 := .agg #[.int .i32 _, .int .i32 _, .int .i32 _]) (v3 := .agg #[.int .i32 _, .int .i32 _, .int .i32 _]) ent27 rfl rfl rfl rfl ((edge_side _ _ _ _ _ _ _ _ _ _).mono fun v w hp => ?_))
  obtain ⟨rfl, hp⟩ := hp
  replace hst := hst.keepc hp
  clear hp
  refine RunL.cons (Op1.assign (v := .int .i64 _) rfl ?_)
  refine RunL.nil ?_
  refine run_seq ?_
  refine run_region ?_
  refine RunL.cons (Op1.loadA (vs := [.int .i32 _, .int .i32 _, .int .i32 _]) ty25 rfl rfl rfl (cells_of_obj (n := 3) (hst.objL (.tail _ (.tail _ (.tail _ (.head _))))) _ rfl) ?_)
  refine RunL.cons (Op1.loadA (vs := [.int .i32 _, .int .i32 _, .int .i32 _]) ty25 rfl rfl rfl (cells_of_obj (n := 3) (hst.objL (.tail _ (.tail _ (.head _)))) _ rfl) ?_)
  refine RunL.cons (Op1.loadA (vs := [.int .i32 _, .int .i32 _, .int .i32 _]) ty25 rfl rfl rfl (cells_of_obj (n := 3) (hst.objL (.head _)) _ rfl) ?_)
  refine RunL.cons (Op1.call3 (v1 := .agg #[.int .i32 _, .int .i32 _, .int .i32 _]) (v2 := .agg #[.int .i32 _, .int .i32 _, .int .i32 _]) (v3 := .agg #[.int .i32 _, .int .i32 _, .int .i32 _]) ent27 rfl rfl rfl rfl ((edge_side _ _ _ _ _ _ _ _ _ _).mono fun v w hp => ?_))
  obtain ⟨rfl, hp⟩ := hp
  replace hst := hst.keepc hp
  clear hp
  refine RunL.cons (Op1.assign (v := .int .i64 _) rfl ?_)
  refine RunL.nil ?_
  refine run_seq ?_
  refine Run.cutC hst [4, 5, 6, 7, 8, 9] (¬ (0 < sideZ (clampZ ax) (clampZ ay) (clampZ bx) (clampZ by_) (clampZ cx) (clampZ cy) ∧ 0 < sideZ (clampZ ax) (clampZ ay) (clampZ bx) (clampZ by_) (clampZ dx) (clampZ dy)) ∧ ¬ (sideZ (clampZ ax) (clampZ ay) (clampZ bx) (clampZ by_) (clampZ cx) (clampZ cy) < 0 ∧ sideZ (clampZ ax) (clampZ ay) (clampZ bx) (clampZ by_) (clampZ dx) (clampZ dy) < 0)) (fun f w kf3 hst hJ2 => ?_) (fun cut1 => ?_)
  · skip
    refine Run.slots (sl := [(4, .int .i64 _), (5, .int .i64 _), (6, .pointer (some ⟨_, _, none⟩)), (7, .pointer (some ⟨_, _, none⟩)), (8, .pointer (some ⟨_, _, none⟩)), (9, .pointer (some ⟨_, _, none⟩))]) ⟨(kf3.get 4 rfl).trans rfl, (kf3.get 5 rfl).trans rfl, (kf3.get 6 rfl).trans rfl, (kf3.get 7 rfl).trans rfl, (kf3.get 8 rfl).trans rfl, (kf3.get 9 rfl).trans rfl, trivial⟩ ?_
    refine run_seq ?_
    refine run_region ?_
    refine RunL.cons (Op1.loadA (vs := [.int .i32 _, .int .i32 _, .int .i32 _]) ty25 rfl rfl rfl (cells_of_obj (n := 3) (hst.objL (.tail _ (.tail _ (.tail _ (.head _))))) _ rfl) ?_)
    refine RunL.cons (Op1.loadA (vs := [.int .i32 _, .int .i32 _, .int .i32 _]) ty25 rfl rfl rfl (cells_of_obj (n := 3) (hst.objL (.tail _ (.tail _ (.head _)))) _ rfl) ?_)
    refine RunL.cons (Op1.loadA (vs := [.int .i32 _, .int .i32 _, .int .i32 _]) ty25 rfl rfl rfl (cells_of_obj (n := 3) (hst.objL (.tail _ (.head _))) _ rfl) ?_)
    refine RunL.cons (Op1.buildArr ty27 ty25 (.cons rfl (v := .agg #[.int .i32 _, .int .i32 _, .int .i32 _]) rfl rfl rfl rfl (by repeat (first | exact Put.nil | apply Put.put | apply Put.skip)) (.cons rfl (v := .agg #[.int .i32 _, .int .i32 _, .int .i32 _]) rfl rfl rfl rfl (by repeat (first | exact Put.nil | apply Put.put | apply Put.skip)) (.cons rfl (v := .agg #[.int .i32 _, .int .i32 _, .int .i32 _]) rfl rfl rfl rfl (by repeat (first | exact Put.nil | apply Put.put | apply Put.skip)) .nil))) ?_)
    refine RunL.cons (Op1.move (v := .int .i64 _) rfl ?_)
    refine RunL.cons (Op1.move (v := .int .i64 _) rfl ?_)
    refine RunL.cons (Op1.call3 (v1 := .agg #[.int .i32 _, .int .i32 _, .int .i32 _, .int .i32 _, .int .i32 _, .int .i32 _, .int .i32 _, .int .i32 _, .int .i32 _]) (v2 := .int .i64 _) (v3 := .int .i64 _) ent42 rfl rfl rfl rfl ((cov_Rows2 _ _ _ _ _ _ _ _ _ _ _ _ hl).mono fun v w hp => ?_))
    obtain ⟨ao4, cp4, rfl, hp⟩ := hp
    replace hst := hst.call0 hp
    clear hp
    refine RunL.cons (Op1.move (v := .tuple #[.slice _ _ _, .int .i64 _]) rfl ?_)
    refine RunL.cons (Op1.extract (v := .slice _ _ _) rfl rfl ?_)
    refine RunL.cons (Op1.extract (v := .int .i64 _) rfl rfl ?_)
    refine RunL.cons (Op1.assign (v := .slice _ _ _) rfl ?_)
    refine RunL.cons (Op1.assign (v := .int .i64 _) rfl ?_)
    refine RunL.nil ?_
    refine run_seq ?_
    refine run_region ?_
    refine RunL.cons (Op1.loadA (vs := [.int .i32 _, .int .i32 _, .int .i32 _]) ty25 rfl rfl rfl (cells_of_obj (n := 3) (hst.objL (.tail _ (.tail _ (.tail _ (.head _))))) _ rfl) ?_)
    refine RunL.cons (Op1.loadA (vs := [.int .i32 _, .int .i32 _, .int .i32 _]) ty25 rfl rfl rfl (cells_of_obj (n := 3) (hst.objL (.tail _ (.tail _ (.tail _ (.tail _ (.head _)))))) _ rfl) ?_)
    refine RunL.cons (Op1.loadA (vs := [.int .i32 _, .int .i32 _, .int .i32 _]) ty25 rfl rfl rfl (cells_of_obj (n := 3) (hst.objL (.tail _ (.head _))) _ rfl) ?_)
    refine RunL.cons (Op1.buildArr ty27 ty25 (.cons rfl (v := .agg #[.int .i32 _, .int .i32 _, .int .i32 _]) rfl rfl rfl rfl (by repeat (first | exact Put.nil | apply Put.put | apply Put.skip)) (.cons rfl (v := .agg #[.int .i32 _, .int .i32 _, .int .i32 _]) rfl rfl rfl rfl (by repeat (first | exact Put.nil | apply Put.put | apply Put.skip)) (.cons rfl (v := .agg #[.int .i32 _, .int .i32 _, .int .i32 _]) rfl rfl rfl rfl (by repeat (first | exact Put.nil | apply Put.put | apply Put.skip)) .nil))) ?_)
    refine RunL.cons (Op1.move (v := .int .i64 _) rfl ?_)
    refine RunL.cons (Op1.move (v := .int .i64 _) rfl ?_)
    refine RunL.cons (Op1.call3 (v1 := .agg #[.int .i32 _, .int .i32 _, .int .i32 _, .int .i32 _, .int .i32 _, .int .i32 _, .int .i32 _, .int .i32 _, .int .i32 _]) (v2 := .int .i64 _) (v3 := .int .i64 _) ent42 rfl rfl rfl rfl ((cov_Rows2 _ _ _ _ _ _ _ _ _ _ _ _ hm).mono fun v w hp => ?_))
    obtain ⟨ao5, cp5, rfl, hp⟩ := hp
    replace hst := hst.call0 hp
    clear hp
    refine RunL.cons (Op1.move (v := .tuple #[.slice _ _ _, .int .i64 _]) rfl ?_)
    refine RunL.cons (Op1.extract (v := .slice _ _ _) rfl rfl ?_)
    refine RunL.cons (Op1.extract (v := .int .i64 _) rfl rfl ?_)
    refine RunL.cons (Op1.assign (v := .slice _ _ _) rfl ?_)
    refine RunL.cons (Op1.assign (v := .int .i64 _) rfl ?_)
    refine RunL.nil ?_
    refine run_seq ?_
    refine run_seq ?_
    refine run_region ?_
    refine RunL.cons (Op1.move (v := .int .i64 _) rfl ?_)
    refine RunL.cons (Op1.move (v := .int .i64 _) rfl ?_)
    refine RunL.cons (Op1.neq rfl rfl ?_)
    refine RunL.cons (Op1.move (v := .bool _) rfl ?_)
    refine RunL.splitD (d := 67) rfl (fun g6 => ?_) (fun g6 => ?_)
    · skip
      exfalso
      exact g6 rfl
    · skip
      refine RunL.take (t := 67) rfl (congrArg Value.bool (decide_eq_false g6)) (Op1.move (v := .int .i64 _) rfl ?_)
      refine RunL.take (t := 67) rfl (congrArg Value.bool (decide_eq_false g6)) (Op1.eql rfl rfl ?_)
      refine RunL.take (t := 67) rfl (congrArg Value.bool (decide_eq_false g6)) (Op1.move (v := .int .i64 _) rfl ?_)
      refine RunL.take (t := 67) rfl (congrArg Value.bool (decide_eq_false g6)) (Op1.move (v := .int .i64 _) rfl ?_)
      refine RunL.take (t := 67) rfl (congrArg Value.bool (decide_eq_false g6)) (Op1.call2 (v1 := .int .i64 _) (v2 := .int .i64 _) ent45 rfl rfl rfl ((law28_picture _ _ _).mono fun v w hp => ?_))
      obtain ⟨rfl, hp⟩ := hp
      replace hst := hst.keepc hp
      clear hp
      refine RunL.take (t := 67) rfl (congrArg Value.bool (decide_eq_false g6)) (Op1.neqB ty4 rfl rfl ?_)
      refine RunL.cons (Op1.pickF (u := .bool _) (congrArg Value.bool (decide_eq_false g6)) rfl ?_)
      refine RunL.nil ?_
      refine run_cond_split rfl (fun g7 => ?_) (fun g7 => ?_)
      · skip
        exfalso
        simp [errZ_pic] at g7
      · skip
        refine run_skip ?_
        refine run_seq ?_
        refine run_seq ?_
        refine run_region ?_
        refine RunL.cons (Op1.assign (v := .int .i64 _) rfl ?_)
        refine RunL.nil ?_
        refine run_block ?_
        refine run_loop ?_
        have sta8 := hst.static (L1 := [])
        replace hst := hst.toD (L1 := [])
        refine Run.indS (fun (i : Nat) => [(19, .int .i64 (i : Int))]) [15, 17] (fun (i : Nat) => []) (fun (i : Nat) => i ≤ l.length) (fun (i : Nat) => l.length - i) 0 hst (Nat.zero_le _) ⟨rfl, trivial⟩ (Keep.refl _ _) ?_
        intro i f w kf9 hst hJ ih10
        replace hst := hst.back sta8
        refine Run.slots (sl := [(15, .slice _ _ _), (17, .slice _ _ _)]) ⟨(kf9.get 15 rfl).trans rfl, (kf9.get 17 rfl).trans rfl, trivial⟩ ?_
        refine run_seq ?_
        refine run_seq ?_
        refine run_region ?_
        refine RunL.cons (Op1.move (v := .int .i64 _) rfl ?_)
        refine RunL.cons (Op1.move (v := .slice _ _ _) rfl ?_)
        refine RunL.cons (Op1.lenSl (rest := []) ty50 rfl ?_)
        refine RunL.cons (Op1.lss rfl rfl ?_)
        refine RunL.nil ?_
        refine run_cond_dec rfl (fun g11 => ?_) (fun g11 => ?_)
        · skip
          refine run_skip ?_
          refine run_seq ?_
          refine run_block ?_
          refine run_seq ?_
          refine run_region ?_
          refine RunL.cons (Op1.assign (v := .int .i64 _) rfl ?_)
          refine RunL.nil ?_
          refine run_block ?_
          refine run_loop ?_
          have sta12 := hst.static (L1 := [])
          replace hst := hst.toD (L1 := [])
          refine Run.indS (fun (k : Nat) => [(20, .int .i64 (k : Int))]) [15, 17, 19] (fun (k : Nat) => []) (fun (k : Nat) => k ≤ m.length) (fun (k : Nat) => m.length - k) 0 hst (Nat.zero_le _) ⟨rfl, trivial⟩ (Keep.refl _ _) ?_
          intro k f w kf13 hst hK ih14
          replace hst := hst.back sta12
          refine Run.slots (sl := [(15, .slice _ _ _), (17, .slice _ _ _), (19, .int .i64 _)]) ⟨(kf13.get 15 rfl).trans rfl, (kf13.get 17 rfl).trans rfl, (kf13.get 19 rfl).trans rfl, trivial⟩ ?_
          refine run_seq ?_
          refine run_seq ?_
          refine run_region ?_
          refine RunL.cons (Op1.move (v := .int .i64 _) rfl ?_)
          refine RunL.cons (Op1.move (v := .slice _ _ _) rfl ?_)
          refine RunL.cons (Op1.lenSl (rest := []) ty50 rfl ?_)
          refine RunL.cons (Op1.lss rfl rfl ?_)
          refine RunL.nil ?_
          refine run_cond_dec rfl (fun g15 => ?_) (fun g15 => ?_)
          · skip
            refine run_skip ?_
            refine run_seq ?_
            refine run_block ?_
            refine run_seq ?_
            obtain ⟨bs16, rfl⟩ := Res.sl_some (hst.hL _ (.tail _ (.head _))) (by omega)
            obtain ⟨bs17, rfl⟩ := Res.sl_some (hst.hL _ (.head _)) (by omega)
            refine RunD.start [] hst (bs := [0, 0, 3, 7, 15, 0, 0, 96, 224, 480, 1023, 2047, 4095, 4095, 16383, 32767, 65535, 4095, 4095, 397311, 921599, 1970175, 4194303, 8388607, 16777215, 33554431, 33554431, 134217727, 268435455, 536870911, 33554431, 33554431, 3254779903, 7549747199, 16139681791, 34359738367, 68719476735]) (ds := [some 87, some 88, some 89, some 90, some 91, some 92, some 93, some 94, some 95, some 96, some 97, some 98, some 99, some 100, some 101, some 102, some 103, some 104, some 105, some 106, some 107, some 108, some 109, some 110, some 111, some 112, some 113, some 114, some 115, some 116, some 117, some 118, some 119, some 120, some 121, some 122, some 123]) ⟨by kernel_rfl, by kernel_rfl, by kernel_rfl⟩ (fun tab18 => ?_)
            refine RunD.op (det _) tab18 1 (fun f' L' w' hc => Op1.move (v := .slice _ _ _) (hc.old (v := .slice _ _ _) rfl rfl rfl) ⟨[], ⟨rfl, rfl⟩, hc.st⟩) ?_
            refine RunD.op (det _) tab18 2 (fun f' L' w' hc => Op1.move (v := .int .i64 _) (hc.old (v := .int .i64 _) rfl rfl rfl) ⟨[], ⟨rfl, rfl⟩, hc.st⟩) ?_
            refine RunD.op (det _) tab18 3 (fun f' L' w' hc => Op1.indexSl ty50 ty56 (hc.det (j := 0) rfl rfl rfl rfl) (hc.det (j := 1) rfl rfl rfl rfl) (by omega) (by omega) ⟨[], ⟨rfl, rfl⟩, hc.st⟩) ?_
            refine RunD.op (det _) tab18 4 (fun f' L' w' hc => Op1.fieldAddr fld56_0 (hc.det (j := 2) rfl rfl rfl rfl) ⟨[], ⟨rfl, rfl⟩, hc.st⟩) ?_
            refine RunD.op (det _) tab18 5 (fun f' L' w' hc => Op1.load1 (v := .int .i64 _) ty3 rfl (hc.det (j := 3) rfl rfl rfl rfl) (Res.sl_cell (hc.st.hL _ (List.mem_append_right _ (.tail _ (.head _)))) (flat_cell (g := rowC) (d := (0, 0, 0)) rowC_len rfl (by omega))) ⟨[], ⟨rfl, rfl⟩, hc.st⟩) ?_
            refine RunD.op (det _) tab18 6 (fun f' L' w' hc => Op1.move (v := .slice _ _ _) (hc.old (v := .slice _ _ _) rfl rfl rfl) ⟨[], ⟨rfl, rfl⟩, hc.st⟩) ?_
            refine RunD.op (det _) tab18 7 (fun f' L' w' hc => Op1.move (v := .int .i64 _) (hc.old (v := .int .i64 _) rfl rfl rfl) ⟨[], ⟨rfl, rfl⟩, hc.st⟩) ?_
            refine RunD.op (det _) tab18 8 (fun f' L' w' hc => Op1.indexSl ty50 ty56 (hc.det (j := 5) rfl rfl rfl rfl) (hc.det (j := 6) rfl rfl rfl rfl) (by omega) (by omega) ⟨[], ⟨rfl, rfl⟩, hc.st⟩) ?_
            refine RunD.op (det _) tab18 9 (fun f' L' w' hc => Op1.fieldAddr fld56_0 (hc.det (j := 7) rfl rfl rfl rfl) ⟨[], ⟨rfl, rfl⟩, hc.st⟩) ?_
            refine RunD.op (det _) tab18 10 (fun f' L' w' hc => Op1.load1 (v := .int .i64 _) ty3 rfl (hc.det (j := 8) rfl rfl rfl rfl) (Res.sl_cell (hc.st.hL _ (List.mem_append_right _ (.head _))) (flat_cell (g := rowC) (d := (0, 0, 0)) rowC_len rfl (by omega))) ⟨[], ⟨rfl, rfl⟩, hc.st⟩) ?_
            refine RunD.op (det _) tab18 11 (fun f' L' w' hc => Op1.eql (hc.det (j := 4) rfl rfl rfl rfl) (hc.det (j := 9) rfl rfl rfl rfl) ⟨[], ⟨rfl, rfl⟩, hc.st⟩) ?_
            refine RunD.op (det _) tab18 12 (fun f' L' w' hc => Op1.move (v := .bool _) (hc.det (j := 10) rfl rfl rfl rfl) ⟨[], ⟨rfl, rfl⟩, hc.st⟩) ?_
            refine RunD.splitD (j := 11) rfl (fun g19 => ?_) (fun g19 => ?_)
            · skip
              refine RunD.take (det _) tab18 13 rfl (fun f' L' w' hc => (hc.det (j := 11) rfl rfl rfl rfl).trans (congrArg Value.bool (decide_eq_true g19))) (fun f' L' w' hc => Op1.move (v := .slice _ _ _) (hc.old (v := .slice _ _ _) rfl rfl rfl) ⟨[], ⟨rfl, rfl⟩, hc.st⟩) ?_
              refine RunD.take (det _) tab18 14 rfl (fun f' L' w' hc => (hc.det (j := 11) rfl rfl rfl rfl).trans (congrArg Value.bool (decide_eq_true g19))) (fun f' L' w' hc => Op1.move (v := .int .i64 _) (hc.old (v := .int .i64 _) rfl rfl rfl) ⟨[], ⟨rfl, rfl⟩, hc.st⟩) ?_
              refine RunD.take (det _) tab18 15 rfl (fun f' L' w' hc => (hc.det (j := 11) rfl rfl rfl rfl).trans (congrArg Value.bool (decide_eq_true g19))) (fun f' L' w' hc => Op1.indexSl ty50 ty56 (hc.det (j := 12) rfl rfl rfl rfl) (hc.det (j := 13) rfl rfl rfl rfl) (by omega) (by omega) ⟨[], ⟨rfl, rfl⟩, hc.st⟩) ?_
              refine RunD.take (det _) tab18 16 rfl (fun f' L' w' hc => (hc.det (j := 11) rfl rfl rfl rfl).trans (congrArg Value.bool (decide_eq_true g19))) (fun f' L' w' hc => Op1.fieldAddr fld56_1 (hc.det (j := 14) rfl rfl rfl rfl) ⟨[], ⟨rfl, rfl⟩, hc.st⟩) ?_
              refine RunD.take (det _) tab18 17 rfl (fun f' L' w' hc => (hc.det (j := 11) rfl rfl rfl rfl).trans (congrArg Value.bool (decide_eq_true g19))) (fun f' L' w' hc => Op1.load1 (v := .int .i64 _) ty3 rfl (hc.det (j := 15) rfl rfl rfl rfl) (Res.sl_cell (hc.st.hL _ (List.mem_append_right _ (.tail _ (.head _)))) (flat_cell (g := rowC) (d := (0, 0, 0)) rowC_len rfl (by omega))) ⟨[], ⟨rfl, rfl⟩, hc.st⟩) ?_
              refine RunD.take (det _) tab18 18 rfl (fun f' L' w' hc => (hc.det (j := 11) rfl rfl rfl rfl).trans (congrArg Value.bool (decide_eq_true g19))) (fun f' L' w' hc => Op1.move (v := .slice _ _ _) (hc.old (v := .slice _ _ _) rfl rfl rfl) ⟨[], ⟨rfl, rfl⟩, hc.st⟩) ?_
              refine RunD.take (det _) tab18 19 rfl (fun f' L' w' hc => (hc.det (j := 11) rfl rfl rfl rfl).trans (congrArg Value.bool (decide_eq_true g19))) (fun f' L' w' hc => Op1.move (v := .int .i64 _) (hc.old (v := .int .i64 _) rfl rfl rfl) ⟨[], ⟨rfl, rfl⟩, hc.st⟩) ?_
              refine RunD.take (det _) tab18 20 rfl (fun f' L' w' hc => (hc.det (j := 11) rfl rfl rfl rfl).trans (congrArg Value.bool (decide_eq_true g19))) (fun f' L' w' hc => Op1.indexSl ty50 ty56 (hc.det (j := 17) rfl rfl rfl rfl) (hc.det (j := 18) rfl rfl rfl rfl) (by omega) (by omega) ⟨[], ⟨rfl, rfl⟩, hc.st⟩) ?_
              refine RunD.take (det _) tab18 21 rfl (fun f' L' w' hc => (hc.det (j := 11) rfl rfl rfl rfl).trans (congrArg Value.bool (decide_eq_true g19))) (fun f' L' w' hc => Op1.fieldAddr fld56_2 (hc.det (j := 19) rfl rfl rfl rfl) ⟨[], ⟨rfl, rfl⟩, hc.st⟩) ?_
              refine RunD.take (det _) tab18 22 rfl (fun f' L' w' hc => (hc.det (j := 11) rfl rfl rfl rfl).trans (congrArg Value.bool (decide_eq_true g19))) (fun f' L' w' hc => Op1.load1 (v := .int .i64 _) ty3 rfl (hc.det (j := 20) rfl rfl rfl rfl) (Res.sl_cell (hc.st.hL _ (List.mem_append_right _ (.head _))) (flat_cell (g := rowC) (d := (0, 0, 0)) rowC_len rfl (by omega))) ⟨[], ⟨rfl, rfl⟩, hc.st⟩) ?_
              refine RunD.take (det _) tab18 23 rfl (fun f' L' w' hc => (hc.det (j := 11) rfl rfl rfl rfl).trans (congrArg Value.bool (decide_eq_true g19))) (fun f' L' w' hc => Op1.lss (hc.det (j := 16) rfl rfl rfl rfl) (hc.det (j := 21) rfl rfl rfl rfl) ⟨[], ⟨rfl, rfl⟩, hc.st⟩) ?_
              refine RunD.op (det _) tab18 24 (fun f' L' w' hc => Op1.pickT (u := .bool _) (((hc.det (j := 11) rfl rfl rfl rfl)).trans (congrArg Value.bool (decide_eq_true g19))) (hc.det (j := 22) rfl rfl rfl rfl) ⟨[], ⟨rfl, rfl⟩, hc.st⟩) ?_
              refine RunD.op (det _) tab18 25 (fun f' L' w' hc => Op1.move (v := .bool _) (hc.det (j := 23) rfl rfl rfl rfl) ⟨[], ⟨rfl, rfl⟩, hc.st⟩) ?_
              refine RunD.splitD (j := 24) rfl (fun g20 => ?_) (fun g20 => ?_)
              · skip
                refine RunD.take (det _) tab18 26 rfl (fun f' L' w' hc => (hc.det (j := 24) rfl rfl rfl rfl).trans (congrArg Value.bool (decide_eq_true g20))) (fun f' L' w' hc => Op1.move (v := .slice _ _ _) (hc.old (v := .slice _ _ _) rfl rfl rfl) ⟨[], ⟨rfl, rfl⟩, hc.st⟩) ?_
                refine RunD.take (det _) tab18 27 rfl (fun f' L' w' hc => (hc.det (j := 24) rfl rfl rfl rfl).trans (congrArg Value.bool (decide_eq_true g20))) (fun f' L' w' hc => Op1.move (v := .int .i64 _) (hc.old (v := .int .i64 _) rfl rfl rfl) ⟨[], ⟨rfl, rfl⟩, hc.st⟩) ?_
                refine RunD.take (det _) tab18 28 rfl (fun f' L' w' hc => (hc.det (j := 24) rfl rfl rfl rfl).trans (congrArg Value.bool (decide_eq_true g20))) (fun f' L' w' hc => Op1.indexSl ty50 ty56 (hc.det (j := 25) rfl rfl rfl rfl) (hc.det (j := 26) rfl rfl rfl rfl) (by omega) (by omega) ⟨[], ⟨rfl, rfl⟩, hc.st⟩) ?_
                refine RunD.take (det _) tab18 29 rfl (fun f' L' w' hc => (hc.det (j := 24) rfl rfl rfl rfl).trans (congrArg Value.bool (decide_eq_true g20))) (fun f' L' w' hc => Op1.fieldAddr fld56_1 (hc.det (j := 27) rfl rfl rfl rfl) ⟨[], ⟨rfl, rfl⟩, hc.st⟩) ?_
                refine RunD.take (det _) tab18 30 rfl (fun f' L' w' hc => (hc.det (j := 24) rfl rfl rfl rfl).trans (congrArg Value.bool (decide_eq_true g20))) (fun f' L' w' hc => Op1.load1 (v := .int .i64 _) ty3 rfl (hc.det (j := 28) rfl rfl rfl rfl) (Res.sl_cell (hc.st.hL _ (List.mem_append_right _ (.head _))) (flat_cell (g := rowC) (d := (0, 0, 0)) rowC_len rfl (by omega))) ⟨[], ⟨rfl, rfl⟩, hc.st⟩) ?_
                refine RunD.take (det _) tab18 31 rfl (fun f' L' w' hc => (hc.det (j := 24) rfl rfl rfl rfl).trans (congrArg Value.bool (decide_eq_true g20))) (fun f' L' w' hc => Op1.move (v := .slice _ _ _) (hc.old (v := .slice _ _ _) rfl rfl rfl) ⟨[], ⟨rfl, rfl⟩, hc.st⟩) ?_
                refine RunD.take (det _) tab18 32 rfl (fun f' L' w' hc => (hc.det (j := 24) rfl rfl rfl rfl).trans (congrArg Value.bool (decide_eq_true g20))) (fun f' L' w' hc => Op1.move (v := .int .i64 _) (hc.old (v := .int .i64 _) rfl rfl rfl) ⟨[], ⟨rfl, rfl⟩, hc.st⟩) ?_
                refine RunD.take (det _) tab18 33 rfl (fun f' L' w' hc => (hc.det (j := 24) rfl rfl rfl rfl).trans (congrArg Value.bool (decide_eq_true g20))) (fun f' L' w' hc => Op1.indexSl ty50 ty56 (hc.det (j := 30) rfl rfl rfl rfl) (hc.det (j := 31) rfl rfl rfl rfl) (by omega) (by omega) ⟨[], ⟨rfl, rfl⟩, hc.st⟩) ?_
                refine RunD.take (det _) tab18 34 rfl (fun f' L' w' hc => (hc.det (j := 24) rfl rfl rfl rfl).trans (congrArg Value.bool (decide_eq_true g20))) (fun f' L' w' hc => Op1.fieldAddr fld56_2 (hc.det (j := 32) rfl rfl rfl rfl) ⟨[], ⟨rfl, rfl⟩, hc.st⟩) ?_
                refine RunD.take (det _) tab18 35 rfl (fun f' L' w' hc => (hc.det (j := 24) rfl rfl rfl rfl).trans (congrArg Value.bool (decide_eq_true g20))) (fun f' L' w' hc => Op1.load1 (v := .int .i64 _) ty3 rfl (hc.det (j := 33) rfl rfl rfl rfl) (Res.sl_cell (hc.st.hL _ (List.mem_append_right _ (.tail _ (.head _)))) (flat_cell (g := rowC) (d := (0, 0, 0)) rowC_len rfl (by omega))) ⟨[], ⟨rfl, rfl⟩, hc.st⟩) ?_
                refine RunD.fin followsMixed tab18 hst rfl (fun f21 w R24 hs22 hd23 hr25 hst => ?_)
                obtain ⟨h87_, r0⟩ := hd23 0 87 rfl rfl
                obtain ⟨h88_, r1⟩ := hd23 1 88 rfl rfl
                obtain ⟨h89_, r2⟩ := hd23 2 89 rfl rfl
                obtain ⟨h90_, r3⟩ := hd23 3 90 rfl rfl
                obtain ⟨h91_, r4⟩ := hd23 4 91 rfl rfl
                obtain ⟨h92_, r5⟩ := hd23 5 92 rfl rfl
                obtain ⟨h93_, r6⟩ := hd23 6 93 rfl rfl
                obtain ⟨h94_, r7⟩ := hd23 7 94 rfl rfl
                obtain ⟨h95_, r8⟩ := hd23 8 95 rfl rfl
                obtain ⟨h96_, r9⟩ := hd23 9 96 rfl rfl
                obtain ⟨h97_, r10⟩ := hd23 10 97 rfl rfl
                obtain ⟨h98_, r11⟩ := hd23 11 98 rfl rfl
                obtain ⟨h99_, r12⟩ := hd23 12 99 rfl rfl
                obtain ⟨h100_, r13⟩ := hd23 13 100 rfl rfl
                obtain ⟨h101_, r14⟩ := hd23 14 101 rfl rfl
                obtain ⟨h102_, r15⟩ := hd23 15 102 rfl rfl
                obtain ⟨h103_, r16⟩ := hd23 16 103 rfl rfl
                obtain ⟨h104_, r17⟩ := hd23 17 104 rfl rfl
                obtain ⟨h105_, r18⟩ := hd23 18 105 rfl rfl
                obtain ⟨h106_, r19⟩ := hd23 19 106 rfl rfl
                obtain ⟨h107_, r20⟩ := hd23 20 107 rfl rfl
                obtain ⟨h108_, r21⟩ := hd23 21 108 rfl rfl
                obtain ⟨h109_, r22⟩ := hd23 22 109 rfl rfl
                obtain ⟨h110_, r23⟩ := hd23 23 110 rfl rfl
                obtain ⟨h111_, r24⟩ := hd23 24 111 rfl rfl
                obtain ⟨h112_, r25⟩ := hd23 25 112 rfl rfl
                obtain ⟨h113_, r26⟩ := hd23 26 113 rfl rfl
                obtain ⟨h114_, r27⟩ := hd23 27 114 rfl rfl
                obtain ⟨h115_, r28⟩ := hd23 28 115 rfl rfl
                obtain ⟨h116_, r29⟩ := hd23 29 116 rfl rfl
                obtain ⟨h117_, r30⟩ := hd23 30 117 rfl rfl
                obtain ⟨h118_, r31⟩ := hd23 31 118 rfl rfl
                obtain ⟨h119_, r32⟩ := hd23 32 119 rfl rfl
                obtain ⟨h120_, r33⟩ := hd23 33 120 rfl rfl
                obtain ⟨h121_, r34⟩ := hd23 34 121 rfl rfl
                simp only [show List.range 35 = [0, 1, 2, 3, 4, 5, 6, 7, 8, 9, 10, 11, 12, 13, 14, 15, 16, 17, 18, 19, 20, 21, 22, 23, 24, 25, 26, 27, 28, 29, 30, 31, 32, 33, 34] from rfl, List.flatMap_cons, List.flatMap_nil, List.map_cons, List.map_nil, r0, r1, r2, r3, r4, r5, r6, r7, r8, r9, r10, r11, r12, r13, r14, r15, r16, r17, r18, r19, r20, r21, r22, r23, r24, r25, r26, r27, r28, r29, r30, r31, r32, r33, r34, List.nil_append, List.append_nil, List.cons_append] at hst
                refine RunL.slots (sl := [(15, .slice _ _ _), (17, .slice _ _ _), (19, .int .i64 _), (20, .int .i64 _), (99, .slice _ _ _), (100, .int .i64 _), (101, .pointer (some ⟨_, _, none⟩)), (102, .pointer (some ⟨_, _, none⟩)), (103, .int .i64 _), (104, .slice _ _ _), (105, .int .i64 _), (106, .pointer (some ⟨_, _, none⟩)), (107, .pointer (some ⟨_, _, none⟩)), (108, .int .i64 _), (109, .bool _), (111, .bool _), (112, .slice _ _ _), (113, .int .i64 _), (114, .pointer (some ⟨_, _, none⟩)), (115, .pointer (some ⟨_, _, none⟩)), (116, .int .i64 _), (117, .slice _ _ _), (118, .int .i64 _), (119, .pointer (some ⟨_, _, none⟩)), (120, .pointer (some ⟨_, _, none⟩)), (121, .int .i64 _)]) ⟨(hs22 15 rfl).trans rfl, (hs22 17 rfl).trans rfl, (hs22 19 rfl).trans rfl, (hs22 20 rfl).trans rfl, h99_, h100_, h101_, h102_, h103_, h104_, h105_, h106_, h107_, h108_, h109_, h111_, h112_, h113_, h114_, h115_, h116_, h117_, h118_, h119_, h120_, h121_, trivial⟩ ?_
                clear hs22 hd23 hr25 tab18
                refine RunL.take (t := 111) rfl (congrArg Value.bool (decide_eq_true g20)) (Op1.lss rfl rfl ?_)
                refine RunL.cons (Op1.pickT (u := .bool _) (congrArg Value.bool (decide_eq_true g20)) rfl ?_)
                refine RunL.nil ?_
                refine run_cond_dec rfl (fun g26 => ?_) (fun g26 => ?_)
                · skip
                  exfalso
                  exact cov_overlap hJ2 (getD_mem hl (by omega)) (getD_mem hm (by omega)) g19 g20 g26
                · skip
                  refine run_skip ?_
                  refine run_inBlock ?_
                  refine run_region ?_
                  refine RunL.cons (Op1.move (v := .int .i64 _) rfl ?_)
                  refine RunL.cons (Op1.addN rfl rfl rfl (wrap_i64 (by omega) (by omega)) ?_)
                  refine RunL.cons (Op1.assign (v := .int .i64 _) rfl ?_)
                  refine RunL.nil ?_
                  refine run_inLoop ?_
                  replace hst := hst.toD (L1 := [])
                  exact ih14 (k + 1) _ w (by omega) hst (by omega) ⟨rfl, rfl, rfl, trivial⟩ ⟨(congrArg (Value.int .i64) (by omega)), trivial⟩
              · skip
                refine RunD.omit tab18 26 rfl rfl (fun f' L' w' hc => (hc.det (j := 24) rfl rfl rfl rfl).trans (congrArg Value.bool (decide_eq_false g20))) ?_
                refine RunD.omit tab18 27 rfl rfl (fun f' L' w' hc => (hc.det (j := 24) rfl rfl rfl rfl).trans (congrArg Value.bool (decide_eq_false g20))) ?_
                refine RunD.omit tab18 28 rfl rfl (fun f' L' w' hc => (hc.det (j := 24) rfl rfl rfl rfl).trans (congrArg Value.bool (decide_eq_false g20))) ?_
                refine RunD.omit tab18 29 rfl rfl (fun f' L' w' hc => (hc.det (j := 24) rfl rfl rfl rfl).trans (congrArg Value.bool (decide_eq_false g20))) ?_
                refine RunD.omit tab18 30 rfl rfl (fun f' L' w' hc => (hc.det (j := 24) rfl rfl rfl rfl).trans (congrArg Value.bool (decide_eq_false g20))) ?_
                refine RunD.omit tab18 31 rfl rfl (fun f' L' w' hc => (hc.det (j := 24) rfl rfl rfl rfl).trans (congrArg Value.bool (decide_eq_false g20))) ?_
                refine RunD.omit tab18 32 rfl rfl (fun f' L' w' hc => (hc.det (j := 24) rfl rfl rfl rfl).trans (congrArg Value.bool (decide_eq_false g20))) ?_
                refine RunD.omit tab18 33 rfl rfl (fun f' L' w' hc => (hc.det (j := 24) rfl rfl rfl rfl).trans (congrArg Value.bool (decide_eq_false g20))) ?_
                refine RunD.omit tab18 34 rfl rfl (fun f' L' w' hc => (hc.det (j := 24) rfl rfl rfl rfl).trans (congrArg Value.bool (decide_eq_false g20))) ?_
                refine RunD.omit tab18 35 rfl rfl (fun f' L' w' hc => (hc.det (j := 24) rfl rfl rfl rfl).trans (congrArg Value.bool (decide_eq_false g20))) ?_
                refine RunD.fin followsMixed tab18 hst rfl (fun f27 w R30 hs28 hd29 hr31 hst => ?_)
                obtain ⟨h87_, r0⟩ := hd29 0 87 rfl rfl
                obtain ⟨h88_, r1⟩ := hd29 1 88 rfl rfl
                obtain ⟨h89_, r2⟩ := hd29 2 89 rfl rfl
                obtain ⟨h90_, r3⟩ := hd29 3 90 rfl rfl
                obtain ⟨h91_, r4⟩ := hd29 4 91 rfl rfl
                obtain ⟨h92_, r5⟩ := hd29 5 92 rfl rfl
                obtain ⟨h93_, r6⟩ := hd29 6 93 rfl rfl
                obtain ⟨h94_, r7⟩ := hd29 7 94 rfl rfl
                obtain ⟨h95_, r8⟩ := hd29 8 95 rfl rfl
                obtain ⟨h96_, r9⟩ := hd29 9 96 rfl rfl
                obtain ⟨h97_, r10⟩ := hd29 10 97 rfl rfl
                obtain ⟨h98_, r11⟩ := hd29 11 98 rfl rfl
                obtain ⟨h99_, r12⟩ := hd29 12 99 rfl rfl
                obtain ⟨h100_, r13⟩ := hd29 13 100 rfl rfl
                obtain ⟨h101_, r14⟩ := hd29 14 101 rfl rfl
                obtain ⟨h102_, r15⟩ := hd29 15 102 rfl rfl
                obtain ⟨h103_, r16⟩ := hd29 16 103 rfl rfl
                obtain ⟨h104_, r17⟩ := hd29 17 104 rfl rfl
                obtain ⟨h105_, r18⟩ := hd29 18 105 rfl rfl
                obtain ⟨h106_, r19⟩ := hd29 19 106 rfl rfl
                obtain ⟨h107_, r20⟩ := hd29 20 107 rfl rfl
                obtain ⟨h108_, r21⟩ := hd29 21 108 rfl rfl
                obtain ⟨h109_, r22⟩ := hd29 22 109 rfl rfl
                obtain ⟨h110_, r23⟩ := hd29 23 110 rfl rfl
                obtain ⟨h111_, r24⟩ := hd29 24 111 rfl rfl
                obtain ⟨h112_, r25⟩ := hd29 25 112 rfl rfl
                obtain ⟨h113_, r26⟩ := hd29 26 113 rfl rfl
                obtain ⟨h114_, r27⟩ := hd29 27 114 rfl rfl
                obtain ⟨h115_, r28⟩ := hd29 28 115 rfl rfl
                obtain ⟨h116_, r29⟩ := hd29 29 116 rfl rfl
                obtain ⟨h117_, r30⟩ := hd29 30 117 rfl rfl
                obtain ⟨h118_, r31⟩ := hd29 31 118 rfl rfl
                obtain ⟨h119_, r32⟩ := hd29 32 119 rfl rfl
                obtain ⟨h120_, r33⟩ := hd29 33 120 rfl rfl
                obtain ⟨h121_, r34⟩ := hd29 34 121 rfl rfl
                simp only [show List.range 35 = [0, 1, 2, 3, 4, 5, 6, 7, 8, 9, 10, 11, 12, 13, 14, 15, 16, 17, 18, 19, 20, 21, 22, 23, 24, 25, 26, 27, 28, 29, 30, 31, 32, 33, 34] from rfl, List.flatMap_cons, List.flatMap_nil, List.map_cons, List.map_nil, r0, r1, r2, r3, r4, r5, r6, r7, r8, r9, r10, r11, r12, r13, r14, r15, r16, r17, r18, r19, r20, r21, r22, r23, r24, r25, r26, r27, r28, r29, r30, r31, r32, r33, r34, List.nil_append, List.append_nil, List.cons_append] at hst
                refine RunL.slots (sl := [(15, .slice _ _ _), (17, .slice _ _ _), (19, .int .i64 _), (20, .int .i64 _), (99, .slice _ _ _), (100, .int .i64 _), (101, .pointer (some ⟨_, _, none⟩)), (102, .pointer (some ⟨_, _, none⟩)), (103, .int .i64 _), (104, .slice _ _ _), (105, .int .i64 _), (106, .pointer (some ⟨_, _, none⟩)), (107, .pointer (some ⟨_, _, none⟩)), (108, .int .i64 _), (109, .bool _), (111, .bool _), (112, _), (113, _), (114, _), (115, _), (116, _), (117, _), (118, _), (119, _), (120, _), (121, _)]) ⟨(hs28 15 rfl).trans rfl, (hs28 17 rfl).trans rfl, (hs28 19 rfl).trans rfl, (hs28 20 rfl).trans rfl, h99_, h100_, h101_, h102_, h103_, h104_, h105_, h106_, h107_, h108_, h109_, h111_, h112_, h113_, h114_, h115_, h116_, h117_, h118_, h119_, h120_, h121_, trivial⟩ ?_
                clear hs28 hd29 hr31 tab18
                refine RunL.omit (t := 111) rfl (congrArg Value.bool (decide_eq_false g20)) rfl ?_
                refine RunL.cons (Op1.pickF (u := .bool _) (congrArg Value.bool (decide_eq_false g20)) rfl ?_)
                refine RunL.nil ?_
                refine run_cond_false (congrArg Value.bool (rfl : false = _)) ?_
                refine run_skip ?_
                refine run_inBlock ?_
                refine run_region ?_
                refine RunL.cons (Op1.move (v := .int .i64 _) rfl ?_)
                refine RunL.cons (Op1.addN rfl rfl rfl (wrap_i64 (by omega) (by omega)) ?_)
                refine RunL.cons (Op1.assign (v := .int .i64 _) rfl ?_)
                refine RunL.nil ?_
                refine run_inLoop ?_
                replace hst := hst.toD (L1 := [])
                exact ih14 (k + 1) _ w (by omega) hst (by omega) ⟨rfl, rfl, rfl, trivial⟩ ⟨(congrArg (Value.int .i64) (by omega)), trivial⟩
            · skip
              refine RunD.omit tab18 13 rfl rfl (fun f' L' w' hc => (hc.det (j := 11) rfl rfl rfl rfl).trans (congrArg Value.bool (decide_eq_false g19))) ?_
              refine RunD.omit tab18 14 rfl rfl (fun f' L' w' hc => (hc.det (j := 11) rfl rfl rfl rfl).trans (congrArg Value.bool (decide_eq_false g19))) ?_
              refine RunD.omit tab18 15 rfl rfl (fun f' L' w' hc => (hc.det (j := 11) rfl rfl rfl rfl).trans (congrArg Value.bool (decide_eq_false g19))) ?_
              refine RunD.omit tab18 16 rfl rfl (fun f' L' w' hc => (hc.det (j := 11) rfl rfl rfl rfl).trans (congrArg Value.bool (decide_eq_false g19))) ?_
              refine RunD.omit tab18 17 rfl rfl (fun f' L' w' hc => (hc.det (j := 11) rfl rfl rfl rfl).trans (congrArg Value.bool (decide_eq_false g19))) ?_
              refine RunD.omit tab18 18 rfl rfl (fun f' L' w' hc => (hc.det (j := 11) rfl rfl rfl rfl).trans (congrArg Value.bool (decide_eq_false g19))) ?_
              refine RunD.omit tab18 19 rfl rfl (fun f' L' w' hc => (hc.det (j := 11) rfl rfl rfl rfl).trans (congrArg Value.bool (decide_eq_false g19))) ?_
              refine RunD.omit tab18 20 rfl rfl (fun f' L' w' hc => (hc.det (j := 11) rfl rfl rfl rfl).trans (congrArg Value.bool (decide_eq_false g19))) ?_
              refine RunD.omit tab18 21 rfl rfl (fun f' L' w' hc => (hc.det (j := 11) rfl rfl rfl rfl).trans (congrArg Value.bool (decide_eq_false g19))) ?_
              refine RunD.omit tab18 22 rfl rfl (fun f' L' w' hc => (hc.det (j := 11) rfl rfl rfl rfl).trans (congrArg Value.bool (decide_eq_false g19))) ?_
              refine RunD.omit tab18 23 rfl rfl (fun f' L' w' hc => (hc.det (j := 11) rfl rfl rfl rfl).trans (congrArg Value.bool (decide_eq_false g19))) ?_
              refine RunD.op (det _) tab18 24 (fun f' L' w' hc => Op1.pickF (u := .bool _) (((hc.det (j := 11) rfl rfl rfl rfl)).trans (congrArg Value.bool (decide_eq_false g19))) rfl ⟨[], ⟨rfl, rfl⟩, hc.st⟩) ?_
              refine RunD.op (det _) tab18 25 (fun f' L' w' hc => Op1.move (v := .bool _) (hc.det (j := 23) rfl rfl rfl rfl) ⟨[], ⟨rfl, rfl⟩, hc.st⟩) ?_
              refine RunD.omit tab18 26 rfl rfl (fun f' L' w' hc => (hc.det (j := 24) rfl rfl rfl rfl).trans (congrArg Value.bool (rfl : false = _))) ?_
              refine RunD.omit tab18 27 rfl rfl (fun f' L' w' hc => (hc.det (j := 24) rfl rfl rfl rfl).trans (congrArg Value.bool (rfl : false = _))) ?_
              refine RunD.omit tab18 28 rfl rfl (fun f' L' w' hc => (hc.det (j := 24) rfl rfl rfl rfl).trans (congrArg Value.bool (rfl : false = _))) ?_
              refine RunD.omit tab18 29 rfl rfl (fun f' L' w' hc => (hc.det (j := 24) rfl rfl rfl rfl).trans (congrArg Value.bool (rfl : false = _))) ?_
              refine RunD.omit tab18 30 rfl rfl (fun f' L' w' hc => (hc.det (j := 24) rfl rfl rfl rfl).trans (congrArg Value.bool (rfl : false = _))) ?_
              refine RunD.omit tab18 31 rfl rfl (fun f' L' w' hc => (hc.det (j := 24) rfl rfl rfl rfl).trans (congrArg Value.bool (rfl : false = _))) ?_
              refine RunD.omit tab18 32 rfl rfl (fun f' L' w' hc => (hc.det (j := 24) rfl rfl rfl rfl).trans (congrArg Value.bool (rfl : false = _))) ?_
              refine RunD.omit tab18 33 rfl rfl (fun f' L' w' hc => (hc.det (j := 24) rfl rfl rfl rfl).trans (congrArg Value.bool (rfl : false = _))) ?_
              refine RunD.omit tab18 34 rfl rfl (fun f' L' w' hc => (hc.det (j := 24) rfl rfl rfl rfl).trans (congrArg Value.bool (rfl : false = _))) ?_
              refine RunD.omit tab18 35 rfl rfl (fun f' L' w' hc => (hc.det (j := 24) rfl rfl rfl rfl).trans (congrArg Value.bool (rfl : false = _))) ?_
              refine RunD.fin followsMixed tab18 hst rfl (fun f32 w R35 hs33 hd34 hr36 hst => ?_)
              obtain ⟨h87_, r0⟩ := hd34 0 87 rfl rfl
              obtain ⟨h88_, r1⟩ := hd34 1 88 rfl rfl
              obtain ⟨h89_, r2⟩ := hd34 2 89 rfl rfl
              obtain ⟨h90_, r3⟩ := hd34 3 90 rfl rfl
              obtain ⟨h91_, r4⟩ := hd34 4 91 rfl rfl
              obtain ⟨h92_, r5⟩ := hd34 5 92 rfl rfl
              obtain ⟨h93_, r6⟩ := hd34 6 93 rfl rfl
              obtain ⟨h94_, r7⟩ := hd34 7 94 rfl rfl
              obtain ⟨h95_, r8⟩ := hd34 8 95 rfl rfl
              obtain ⟨h96_, r9⟩ := hd34 9 96 rfl rfl
              obtain ⟨h97_, r10⟩ := hd34 10 97 rfl rfl
              obtain ⟨h98_, r11⟩ := hd34 11 98 rfl rfl
              obtain ⟨h99_, r12⟩ := hd34 12 99 rfl rfl
              obtain ⟨h100_, r13⟩ := hd34 13 100 rfl rfl
              obtain ⟨h101_, r14⟩ := hd34 14 101 rfl rfl
              obtain ⟨h102_, r15⟩ := hd34 15 102 rfl rfl
              obtain ⟨h103_, r16⟩ := hd34 16 103 rfl rfl
              obtain ⟨h104_, r17⟩ := hd34 17 104 rfl rfl
              obtain ⟨h105_, r18⟩ := hd34 18 105 rfl rfl
              obtain ⟨h106_, r19⟩ := hd34 19 106 rfl rfl
              obtain ⟨h107_, r20⟩ := hd34 20 107 rfl rfl
              obtain ⟨h108_, r21⟩ := hd34 21 108 rfl rfl
              obtain ⟨h109_, r22⟩ := hd34 22 109 rfl rfl
              obtain ⟨h110_, r23⟩ := hd34 23 110 rfl rfl
              obtain ⟨h111_, r24⟩ := hd34 24 111 rfl rfl
              obtain ⟨h112_, r25⟩ := hd34 25 112 rfl rfl
              obtain ⟨h113_, r26⟩ := hd34 26 113 rfl rfl
              obtain ⟨h114_, r27⟩ := hd34 27 114 rfl rfl
              obtain ⟨h115_, r28⟩ := hd34 28 115 rfl rfl
              obtain ⟨h116_, r29⟩ := hd34 29 116 rfl rfl
              obtain ⟨h117_, r30⟩ := hd34 30 117 rfl rfl
              obtain ⟨h118_, r31⟩ := hd34 31 118 rfl rfl
              obtain ⟨h119_, r32⟩ := hd34 32 119 rfl rfl
              obtain ⟨h120_, r33⟩ := hd34 33 120 rfl rfl
              obtain ⟨h121_, r34⟩ := hd34 34 121 rfl rfl
              simp only [show List.range 35 = [0, 1, 2, 3, 4, 5, 6, 7, 8, 9, 10, 11, 12, 13, 14, 15, 16, 17, 18, 19, 20, 21, 22, 23, 24, 25, 26, 27, 28, 29, 30, 31, 32, 33, 34] from rfl, List.flatMap_cons, List.flatMap_nil, List.map_cons, List.map_nil, r0, r1, r2, r3, r4, r5, r6, r7, r8, r9, r10, r11, r12, r13, r14, r15, r16, r17, r18, r19, r20, r21, r22, r23, r24, r25, r26, r27, r28, r29, r30, r31, r32, r33, r34, List.nil_append, List.append_nil, List.cons_append] at hst
              refine RunL.slots (sl := [(15, .slice _ _ _), (17, .slice _ _ _), (19, .int .i64 _), (20, .int .i64 _), (99, _), (100, _), (101, _), (102, _), (103, _), (104, _), (105, _), (106, _), (107, _), (108, _), (109, _), (111, .bool _), (112, _), (113, _), (114, _), (115, _), (116, _), (117, _), (118, _), (119, _), (120, _), (121, _)]) ⟨(hs33 15 rfl).trans rfl, (hs33 17 rfl).trans rfl, (hs33 19 rfl).trans rfl, (hs33 20 rfl).trans rfl, h99_, h100_, h101_, h102_, h103_, h104_, h105_, h106_, h107_, h108_, h109_, h111_, h112_, h113_, h114_, h115_, h116_, h117_, h118_, h119_, h120_, h121_, trivial⟩ ?_
              clear hs33 hd34 hr36 tab18
              refine RunL.omit (t := 111) rfl (congrArg Value.bool (rfl : false = _)) rfl ?_
              refine RunL.cons (Op1.pickF (u := .bool _) (congrArg Value.bool (rfl : false = _)) rfl ?_)
              refine RunL.nil ?_
              refine run_cond_false (congrArg Value.bool (rfl : false = _)) ?_
              refine run_skip ?_
              refine run_inBlock ?_
              refine run_region ?_
              refine RunL.cons (Op1.move (v := .int .i64 _) rfl ?_)
              refine RunL.cons (Op1.addN rfl rfl rfl (wrap_i64 (by omega) (by omega)) ?_)
              refine RunL.cons (Op1.assign (v := .int .i64 _) rfl ?_)
              refine RunL.nil ?_
              refine run_inLoop ?_
              replace hst := hst.toD (L1 := [])
              exact ih14 (k + 1) _ w (by omega) hst (by omega) ⟨rfl, rfl, rfl, trivial⟩ ⟨(congrArg (Value.int .i64) (by omega)), trivial⟩
          · skip
            refine run_exit (id := 2) rfl ?_
            refine run_inBlock ?_
            refine run_region ?_
            refine RunL.cons (Op1.move (v := .int .i64 _) rfl ?_)
            refine RunL.cons (Op1.addN rfl rfl rfl (wrap_i64 (by omega) (by omega)) ?_)
            refine RunL.cons (Op1.assign (v := .int .i64 _) rfl ?_)
            refine RunL.nil ?_
            refine run_inLoop ?_
            replace hst := hst.toD (L1 := [])
            exact ih10 (i + 1) _ w (by omega) hst (by omega) ⟨rfl, rfl, trivial⟩ ⟨(congrArg (Value.int .i64) (by omega)), trivial⟩
        · skip
          refine run_exit (id := 0) rfl ?_
          refine run_seq ?_
          refine run_region ?_
          refine RunL.cons (Op1.call0  ent40 rfl  ((law28_awake _).mono fun v w hp => ?_))
          obtain ⟨rfl, hp⟩ := hp
          replace hst := hst.keepc hp
          clear hp
          refine RunL.cons (Op1.assign (v := .bool _) rfl ?_)
          refine RunL.nil ?_
          refine run_ret1 Try.func17 rfl (RV.tmp (v := .bool _) rfl) ?_
          exact ⟨rfl, hst.pure⟩
  · skip
    refine run_seq ?_
    refine run_region ?_
    refine RunL.cons (Op1.move (v := .int .i64 _) rfl ?_)
    refine RunL.cons (Op1.gtr rfl rfl ?_)
    refine RunL.cons (Op1.move (v := .bool _) rfl ?_)
    refine RunL.splitD (d := 31) rfl (fun g37 => ?_) (fun g37 => ?_)
    · skip
      refine RunL.take (t := 31) rfl (congrArg Value.bool (decide_eq_true g37)) (Op1.move (v := .int .i64 _) rfl ?_)
      refine RunL.take (t := 31) rfl (congrArg Value.bool (decide_eq_true g37)) (Op1.gtr rfl rfl ?_)
      refine RunL.cons (Op1.pickT (u := .bool _) (congrArg Value.bool (decide_eq_true g37)) rfl ?_)
      refine RunL.cons (Op1.move (v := .bool _) rfl ?_)
      refine RunL.splitD (d := 35) rfl (fun g38 => ?_) (fun g38 => ?_)
      · skip
        refine RunL.omit (t := 35) rfl (congrArg Value.bool (decide_eq_true g38)) rfl ?_
        refine RunL.omit (t := 35) rfl (congrArg Value.bool (decide_eq_true g38)) rfl ?_
        refine RunL.omit (t := 35) rfl (congrArg Value.bool (decide_eq_true g38)) rfl ?_
        refine RunL.omitU (t := 38) rfl rfl ?_
        refine RunL.omitU (t := 38) rfl rfl ?_
        refine RunL.omit (t := 35) rfl (congrArg Value.bool (decide_eq_true g38)) rfl ?_
        refine RunL.cons (Op1.pickT (u := .bool _) (congrArg Value.bool (decide_eq_true g38)) rfl ?_)
        refine RunL.nil ?_
        refine run_cond_true (congrArg Value.bool (rfl : true = _)) ?_
        refine run_seq ?_
        refine run_region ?_
        refine RunL.cons (Op1.call0  ent40 rfl  ((law28_awake _).mono fun v w hp => ?_))
        obtain ⟨rfl, hp⟩ := hp
        replace hst := hst.keepc hp
        clear hp
        refine RunL.cons (Op1.assign (v := .bool _) rfl ?_)
        refine RunL.nil ?_
        refine run_ret1 Try.func17 rfl (RV.tmp (v := .bool _) rfl) ?_
        exact ⟨rfl, hst.pure⟩
      · skip
        refine RunL.take (t := 35) rfl (congrArg Value.bool (decide_eq_false g38)) (Op1.move (v := .int .i64 _) rfl ?_)
        refine RunL.take (t := 35) rfl (congrArg Value.bool (decide_eq_false g38)) (Op1.lss rfl rfl ?_)
        refine RunL.take (t := 35) rfl (congrArg Value.bool (decide_eq_false g38)) (Op1.move (v := .bool _) rfl ?_)
        refine RunL.splitD (d := 38) rfl (fun g39 => ?_) (fun g39 => ?_)
        · skip
          refine RunL.take (t := 38) rfl (congrArg Value.bool (decide_eq_true g39)) (Op1.move (v := .int .i64 _) rfl ?_)
          refine RunL.take (t := 38) rfl (congrArg Value.bool (decide_eq_true g39)) (Op1.lss rfl rfl ?_)
          refine RunL.take (t := 35) rfl (congrArg Value.bool (decide_eq_false g38)) (Op1.pickT (u := .bool _) (congrArg Value.bool (decide_eq_true g39)) rfl ?_)
          refine RunL.cons (Op1.pickF (u := .bool _) (congrArg Value.bool (decide_eq_false g38)) rfl ?_)
          refine RunL.nil ?_
          refine run_cond_dec rfl (fun g40 => ?_) (fun g40 => ?_)
          · skip
            refine run_seq ?_
            refine run_region ?_
            refine RunL.cons (Op1.call0  ent40 rfl  ((law28_awake _).mono fun v w hp => ?_))
            obtain ⟨rfl, hp⟩ := hp
            replace hst := hst.keepc hp
            clear hp
            refine RunL.cons (Op1.assign (v := .bool _) rfl ?_)
            refine RunL.nil ?_
            refine run_ret1 Try.func17 rfl (RV.tmp (v := .bool _) rfl) ?_
            exact ⟨rfl, hst.pure⟩
          · skip
            refine run_skip ?_
            exact cut1 _ w hst (by omega) ⟨rfl, rfl, rfl, rfl, rfl, rfl, trivial⟩
        · skip
          refine RunL.omit (t := 38) rfl (congrArg Value.bool (decide_eq_false g39)) rfl ?_
          refine RunL.omit (t := 38) rfl (congrArg Value.bool (decide_eq_false g39)) rfl ?_
          refine RunL.take (t := 35) rfl (congrArg Value.bool (decide_eq_false g38)) (Op1.pickF (u := .bool _) (congrArg Value.bool (decide_eq_false g39)) rfl ?_)
          refine RunL.cons (Op1.pickF (u := .bool _) (congrArg Value.bool (decide_eq_false g38)) rfl ?_)
          refine RunL.nil ?_
          refine run_cond_false (congrArg Value.bool (rfl : false = _)) ?_
          refine run_skip ?_
          exact cut1 _ w hst (by omega) ⟨rfl, rfl, rfl, rfl, rfl, rfl, trivial⟩
    · skip
      refine RunL.omit (t := 31) rfl (congrArg Value.bool (decide_eq_false g37)) rfl ?_
      refine RunL.omit (t := 31) rfl (congrArg Value.bool (decide_eq_false g37)) rfl ?_
      refine RunL.cons (Op1.pickF (u := .bool _) (congrArg Value.bool (decide_eq_false g37)) rfl ?_)
      refine RunL.cons (Op1.move (v := .bool _) rfl ?_)
      refine RunL.take (t := 35) rfl (congrArg Value.bool (rfl : false = _)) (Op1.move (v := .int .i64 _) rfl ?_)
      refine RunL.take (t := 35) rfl (congrArg Value.bool (rfl : false = _)) (Op1.lss rfl rfl ?_)
      refine RunL.take (t := 35) rfl (congrArg Value.bool (rfl : false = _)) (Op1.move (v := .bool _) rfl ?_)
      refine RunL.splitD (d := 38) rfl (fun g41 => ?_) (fun g41 => ?_)
      · skip
        refine RunL.take (t := 38) rfl (congrArg Value.bool (decide_eq_true g41)) (Op1.move (v := .int .i64 _) rfl ?_)
        refine RunL.take (t := 38) rfl (congrArg Value.bool (decide_eq_true g41)) (Op1.lss rfl rfl ?_)
        refine RunL.take (t := 35) rfl (congrArg Value.bool (rfl : false = _)) (Op1.pickT (u := .bool _) (congrArg Value.bool (decide_eq_true g41)) rfl ?_)
        refine RunL.cons (Op1.pickF (u := .bool _) (congrArg Value.bool (rfl : false = _)) rfl ?_)
        refine RunL.nil ?_
        refine run_cond_dec rfl (fun g42 => ?_) (fun g42 => ?_)
        · skip
          refine run_seq ?_
          refine run_region ?_
          refine RunL.cons (Op1.call0  ent40 rfl  ((law28_awake _).mono fun v w hp => ?_))
          obtain ⟨rfl, hp⟩ := hp
          replace hst := hst.keepc hp
          clear hp
          refine RunL.cons (Op1.assign (v := .bool _) rfl ?_)
          refine RunL.nil ?_
          refine run_ret1 Try.func17 rfl (RV.tmp (v := .bool _) rfl) ?_
          exact ⟨rfl, hst.pure⟩
        · skip
          refine run_skip ?_
          exact cut1 _ w hst (by omega) ⟨rfl, rfl, rfl, rfl, rfl, rfl, trivial⟩
      · skip
        refine RunL.omit (t := 38) rfl (congrArg Value.bool (decide_eq_false g41)) rfl ?_
        refine RunL.omit (t := 38) rfl (congrArg Value.bool (decide_eq_false g41)) rfl ?_
        refine RunL.take (t := 35) rfl (congrArg Value.bool (rfl : false = _)) (Op1.pickF (u := .bool _) (congrArg Value.bool (decide_eq_false g41)) rfl ?_)
        refine RunL.cons (Op1.pickF (u := .bool _) (congrArg Value.bool (rfl : false = _)) rfl ?_)
        refine RunL.nil ?_
        refine run_cond_false (congrArg Value.bool (rfl : false = _)) ?_
        refine run_skip ?_
        exact cut1 _ w hst (by omega) ⟨rfl, rfl, rfl, rfl, rfl, rfl, trivial⟩

end Go.SK
