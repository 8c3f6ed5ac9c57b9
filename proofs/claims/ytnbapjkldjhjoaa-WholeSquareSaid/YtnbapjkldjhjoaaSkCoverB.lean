/-
  Walks of functions, and of the laws over them.
-/
import Derived.Test.YtnbapjkldjhjoaaSkFacts1
import Derived.Test.YtnbapjkldjhjoaaSkCoverA
set_option linter.unusedVariables false
set_option linter.unusedSimpArgs false
namespace Go.SK
open Go Go.Proofs
open Go.RowKit
theorem ref_ends28 (a b c : Int) (w : World) : Ret Try.prog 64 #[.int .i32 a, .int .i32 b, .int .i32 c] w (fun v w' => v = .tuple #[.int .i64 (lo3 (clampZ a) (clampZ b) (clampZ c)), .int .i64 (hi3 (clampZ a) (clampZ b) (clampZ c))] ∧ St w NoM [] [] w') := by
  refine Ret.enter (args := [.int .i32 a, .int .i32 b, .int .i32 c]) Try.func64 rfl rfl rfl ?_
  have hst := St.init w
  have ha := clampZ_bd a
  have hb := clampZ_bd b
  have hc := clampZ_bd c
  refine run_seq ?_
  refine run_region ?_
  refine RunL.cons (Op1.assign (v := .int .i64 _) rfl ?_)
  refine RunL.cons (Op1.assign (v := .int .i64 _) rfl ?_)
  refine RunL.nil ?_
  refine run_seq ?_
  refine run_region ?_
  refine RunL.cons (Op1.makeSl (k := 3) (z0 := [.int .i64 0, .int .i64 0, .int .i64 0]) hst ty106 ty3 rfl rfl rfl rfl (by kernel_rfl) fun w b12 hst => ?_)
  refine RunL.cons (Op1.assign (v := .slice _ _ _) rfl ?_)
  refine RunL.nil ?_
  refine run_seq ?_
  refine run_region ?_
  refine RunL.cons (Op1.move (v := .slice _ _ _) rfl ?_)
  refine RunL.cons (Op1.move (v := .int .i32 _) rfl ?_)
  refine RunL.cons (Op1.call1 (v1 := .int .i32 _) ent26 rfl rfl ((ref_clamp _ _).mono fun v w hp => ?_))
  obtain ⟨rfl, hp⟩ := hp
  replace hst := hst.keepc hp
  clear hp
  first | refine RunL.cons (Op1.convN ty21 ty3 rfl (wrap_i64 (by omega) (by omega)) ?_) | refine RunL.cons (Op1.conv ty21 ty3 rfl ?_)
  refine RunL.cons (Op1.indexSl ty106 ty3 rfl rfl (by omega) (by omega) ?_)
  refine RunL.cons (Op1.store (v := .int .i64 _) hst ty3 rfl rfl rfl rfl rfl (.here) (by repeat (first | exact Put.nil | apply Put.put | apply Put.skip)) fun w hst => ?_)
  refine RunL.nil ?_
  refine run_seq ?_
  refine run_region ?_
  refine RunL.cons (Op1.move (v := .slice _ _ _) rfl ?_)
  refine RunL.cons (Op1.move (v := .int .i32 _) rfl ?_)
  refine RunL.cons (Op1.call1 (v1 := .int .i32 _) ent26 rfl rfl ((ref_clamp _ _).mono fun v w hp => ?_))
  obtain ⟨rfl, hp⟩ := hp
  replace hst := hst.keepc hp
  clear hp
  first | refine RunL.cons (Op1.convN ty21 ty3 rfl (wrap_i64 (by omega) (by omega)) ?_) | refine RunL.cons (Op1.conv ty21 ty3 rfl ?_)
  refine RunL.cons (Op1.indexSl ty106 ty3 rfl rfl (by omega) (by omega) ?_)
  refine RunL.cons (Op1.store (v := .int .i64 _) hst ty3 rfl rfl rfl rfl rfl (.here) (by repeat (first | exact Put.nil | apply Put.put | apply Put.skip)) fun w hst => ?_)
  refine RunL.nil ?_
  refine run_seq ?_
  refine run_region ?_
  refine RunL.cons (Op1.move (v := .slice _ _ _) rfl ?_)
  refine RunL.cons (Op1.move (v := .int .i32 _) rfl ?_)
  refine RunL.cons (Op1.call1 (v1 := .int .i32 _) ent26 rfl rfl ((ref_clamp _ _).mono fun v w hp => ?_))
  obtain ⟨rfl, hp⟩ := hp
  replace hst := hst.keepc hp
  clear hp
  first | refine RunL.cons (Op1.convN ty21 ty3 rfl (wrap_i64 (by omega) (by omega)) ?_) | refine RunL.cons (Op1.conv ty21 ty3 rfl ?_)
  refine RunL.cons (Op1.indexSl ty106 ty3 rfl rfl (by omega) (by omega) ?_)
  refine RunL.cons (Op1.store (v := .int .i64 _) hst ty3 rfl rfl rfl rfl rfl (.here) (by repeat (first | exact Put.nil | apply Put.put | apply Put.skip)) fun w hst => ?_)
  refine RunL.nil ?_
  refine run_seq ?_
  refine run_region ?_
  refine RunL.cons (Op1.move (v := .slice _ _ _) rfl ?_)
  refine RunL.cons (Op1.indexSl ty106 ty3 rfl rfl (by omega) (by omega) ?_)
  refine RunL.cons (Op1.load1 (v := .int .i64 _) ty3 rfl rfl (hst.cellL (.head _) rfl) ?_)
  refine RunL.cons (Op1.assign (v := .int .i64 _) rfl ?_)
  refine RunL.nil ?_
  refine run_seq ?_
  refine run_region ?_
  refine RunL.cons (Op1.move (v := .slice _ _ _) rfl ?_)
  refine RunL.cons (Op1.indexSl ty106 ty3 rfl rfl (by omega) (by omega) ?_)
  refine RunL.cons (Op1.load1 (v := .int .i64 _) ty3 rfl rfl (hst.cellL (.head _) rfl) ?_)
  refine RunL.cons (Op1.assign (v := .int .i64 _) rfl ?_)
  refine RunL.nil ?_
  refine run_seq ?_
  refine run_seq ?_
  refine run_region ?_
  refine RunL.cons (Op1.assign (v := .int .i64 _) rfl ?_)
  refine RunL.nil ?_
  refine run_block ?_
  refine run_loop ?_
  refine run_seq ?_
  refine run_seq ?_
  refine run_region ?_
  refine RunL.cons (Op1.move (v := .int .i64 _) rfl ?_)
  refine RunL.cons (Op1.lss rfl rfl ?_)
  refine RunL.nil ?_
  refine run_cond_true (congrArg Value.bool (decide_eq_true (by decide))) ?_
  refine run_skip ?_
  refine run_seq ?_
  refine run_block ?_
  refine run_seq ?_
  refine Run.cutV hst (fun (lo1 : Int) => [(9, .int .i64 lo1)]) [8, 10, 11] (fun (lo1 : Int) => lo1 = min (clampZ a) (clampZ b)) (fun lo1 f w kf3 hst hJ2 => ?_) (fun cut1 => ?_)
  · skip
    refine Run.slots (sl := [(8, .slice _ _ _), (10, .int .i64 _), (11, .int .i64 _), (9, .int .i64 lo1)]) ⟨(kf3.get 8 rfl).trans rfl, (kf3.get 10 rfl).trans rfl, (kf3.get 11 rfl).trans rfl, rfl, trivial⟩ ?_
    refine Run.cutV hst (fun (hi1 : Int) => [(10, .int .i64 hi1)]) [8, 9, 11] (fun (hi1 : Int) => hi1 = max (clampZ a) (clampZ b)) (fun hi1 f w kf6 hst hJ5 => ?_) (fun cut4 => ?_)
    · skip
      refine Run.slots (sl := [(8, .slice _ _ _), (9, .int .i64 _), (11, .int .i64 _), (10, .int .i64 hi1)]) ⟨(kf6.get 8 rfl).trans rfl, (kf6.get 9 rfl).trans rfl, (kf6.get 11 rfl).trans rfl, rfl, trivial⟩ ?_
      refine run_inBlock ?_
      refine run_region ?_
      refine RunL.cons (Op1.move (v := .int .i64 _) rfl ?_)
      refine RunL.cons (Op1.addN rfl rfl rfl (wrap_i64 (by omega) (by omega)) ?_)
      refine RunL.cons (Op1.assign (v := .int .i64 _) rfl ?_)
      refine RunL.nil ?_
      refine run_inLoop ?_
      refine run_seq ?_
      refine run_seq ?_
      refine run_region ?_
      refine RunL.cons (Op1.move (v := .int .i64 _) rfl ?_)
      refine RunL.cons (Op1.lss rfl rfl ?_)
      refine RunL.nil ?_
      refine run_cond_true (congrArg Value.bool (decide_eq_true (by decide))) ?_
      refine run_skip ?_
      refine run_seq ?_
      refine run_block ?_
      refine run_seq ?_
      refine Run.cutV hst (fun (lo2 : Int) => [(9, .int .i64 lo2)]) [8, 10, 11] (fun (lo2 : Int) => lo2 = min lo1 (clampZ c)) (fun lo2 f w kf9 hst hJ8 => ?_) (fun cut7 => ?_)
      · skip
        refine Run.slots (sl := [(8, .slice _ _ _), (10, .int .i64 _), (11, .int .i64 _), (9, .int .i64 lo2)]) ⟨(kf9.get 8 rfl).trans rfl, (kf9.get 10 rfl).trans rfl, (kf9.get 11 rfl).trans rfl, rfl, trivial⟩ ?_
        refine Run.cutV hst (fun (hi2 : Int) => [(10, .int .i64 hi2)]) [8, 9, 11] (fun (hi2 : Int) => hi2 = max hi1 (clampZ c)) (fun hi2 f w kf12 hst hJ11 => ?_) (fun cut10 => ?_)
        · skip
          refine Run.slots (sl := [(8, .slice _ _ _), (9, .int .i64 _), (11, .int .i64 _), (10, .int .i64 hi2)]) ⟨(kf12.get 8 rfl).trans rfl, (kf12.get 9 rfl).trans rfl, (kf12.get 11 rfl).trans rfl, rfl, trivial⟩ ?_
          refine run_inBlock ?_
          refine run_region ?_
          refine RunL.cons (Op1.move (v := .int .i64 _) rfl ?_)
          refine RunL.cons (Op1.addN rfl rfl rfl (wrap_i64 (by omega) (by omega)) ?_)
          refine RunL.cons (Op1.assign (v := .int .i64 _) rfl ?_)
          refine RunL.nil ?_
          refine run_inLoop ?_
          refine run_seq ?_
          refine run_seq ?_
          refine run_region ?_
          refine RunL.cons (Op1.move (v := .int .i64 _) rfl ?_)
          refine RunL.cons (Op1.lss rfl rfl ?_)
          refine RunL.nil ?_
          refine run_cond_false (congrArg Value.bool (decide_eq_false (by decide))) ?_
          refine run_exit (id := 0) rfl ?_
          refine run_seq ?_
          refine run_region ?_
          refine RunL.cons (Op1.move (v := .int .i64 _) rfl ?_)
          refine RunL.cons (Op1.move (v := .int .i64 _) rfl ?_)
          refine RunL.cons (Op1.assign (v := .int .i64 _) rfl ?_)
          refine RunL.cons (Op1.assign (v := .int .i64 _) rfl ?_)
          refine RunL.nil ?_
          refine run_ret2 Try.func64 rfl (RV.tmp (v := .int .i64 _) rfl) (RV.tmp (v := .int .i64 _) rfl) ?_
          obtain rfl : lo2 = lo3 (clampZ a) (clampZ b) (clampZ c) := by unfold lo3; omega
          obtain rfl : hi2 = hi3 (clampZ a) (clampZ b) (clampZ c) := by unfold hi3; omega
          exact ⟨rfl, hst.pure⟩
        · skip
          refine run_seq ?_
          refine run_region ?_
          refine RunL.cons (Op1.move (v := .slice _ _ _) rfl ?_)
          refine RunL.cons (Op1.move (v := .int .i64 _) rfl ?_)
          refine RunL.cons (Op1.indexSl ty106 ty3 rfl rfl (by omega) (by omega) ?_)
          refine RunL.cons (Op1.load1 (v := .int .i64 _) ty3 rfl rfl (hst.cellL (.head _) rfl) ?_)
          refine RunL.cons (Op1.move (v := .int .i64 _) rfl ?_)
          refine RunL.cons (Op1.gtr rfl rfl ?_)
          refine RunL.nil ?_
          refine run_cond_dec rfl (fun g13 => ?_) (fun g13 => ?_)
          · skip
            refine run_region ?_
            refine RunL.cons (Op1.move (v := .slice _ _ _) rfl ?_)
            refine RunL.cons (Op1.move (v := .int .i64 _) rfl ?_)
            refine RunL.cons (Op1.indexSl ty106 ty3 rfl rfl (by omega) (by omega) ?_)
            refine RunL.cons (Op1.load1 (v := .int .i64 _) ty3 rfl rfl (hst.cellL (.head _) rfl) ?_)
            refine RunL.cons (Op1.assign (v := .int .i64 _) rfl ?_)
            refine RunL.nil ?_
            exact cut10 ((clampZ c)) _ w hst (by omega) ⟨rfl, rfl, rfl, trivial⟩ ⟨rfl, trivial⟩
          · skip
            refine run_skip ?_
            exact cut10 (hi1) _ w hst (by omega) ⟨rfl, rfl, rfl, trivial⟩ ⟨rfl, trivial⟩
      · skip
        refine run_seq ?_
        refine run_region ?_
        refine RunL.cons (Op1.move (v := .slice _ _ _) rfl ?_)
        refine RunL.cons (Op1.move (v := .int .i64 _) rfl ?_)
        refine RunL.cons (Op1.indexSl ty106 ty3 rfl rfl (by omega) (by omega) ?_)
        refine RunL.cons (Op1.load1 (v := .int .i64 _) ty3 rfl rfl (hst.cellL (.head _) rfl) ?_)
        refine RunL.cons (Op1.move (v := .int .i64 _) rfl ?_)
        refine RunL.cons (Op1.lss rfl rfl ?_)
        refine RunL.nil ?_
        refine run_cond_dec rfl (fun g14 => ?_) (fun g14 => ?_)
        · skip
          refine run_region ?_
          refine RunL.cons (Op1.move (v := .slice _ _ _) rfl ?_)
          refine RunL.cons (Op1.move (v := .int .i64 _) rfl ?_)
          refine RunL.cons (Op1.indexSl ty106 ty3 rfl rfl (by omega) (by omega) ?_)
          refine RunL.cons (Op1.load1 (v := .int .i64 _) ty3 rfl rfl (hst.cellL (.head _) rfl) ?_)
          refine RunL.cons (Op1.assign (v := .int .i64 _) rfl ?_)
          refine RunL.nil ?_
          exact cut7 ((clampZ c)) _ w hst (by omega) ⟨rfl, rfl, rfl, trivial⟩ ⟨rfl, trivial⟩
        · skip
          refine run_skip ?_
          exact cut7 (lo1) _ w hst (by omega) ⟨rfl, rfl, rfl, trivial⟩ ⟨rfl, trivial⟩
    · skip
      refine run_seq ?_
      refine run_region ?_
      refine RunL.cons (Op1.move (v := .slice _ _ _) rfl ?_)
      refine RunL.cons (Op1.move (v := .int .i64 _) rfl ?_)
      refine RunL.cons (Op1.indexSl ty106 ty3 rfl rfl (by omega) (by omega) ?_)
      refine RunL.cons (Op1.load1 (v := .int .i64 _) ty3 rfl rfl (hst.cellL (.head _) rfl) ?_)
      refine RunL.cons (Op1.move (v := .int .i64 _) rfl ?_)
      refine RunL.cons (Op1.gtr rfl rfl ?_)
      refine RunL.nil ?_
      refine run_cond_dec rfl (fun g15 => ?_) (fun g15 => ?_)
      · skip
        refine run_region ?_
        refine RunL.cons (Op1.move (v := .slice _ _ _) rfl ?_)
        refine RunL.cons (Op1.move (v := .int .i64 _) rfl ?_)
        refine RunL.cons (Op1.indexSl ty106 ty3 rfl rfl (by omega) (by omega) ?_)
        refine RunL.cons (Op1.load1 (v := .int .i64 _) ty3 rfl rfl (hst.cellL (.head _) rfl) ?_)
        refine RunL.cons (Op1.assign (v := .int .i64 _) rfl ?_)
        refine RunL.nil ?_
        exact cut4 ((clampZ b)) _ w hst (by omega) ⟨rfl, rfl, rfl, trivial⟩ ⟨rfl, trivial⟩
      · skip
        refine run_skip ?_
        exact cut4 ((clampZ a)) _ w hst (by omega) ⟨rfl, rfl, rfl, trivial⟩ ⟨rfl, trivial⟩
  · skip
    refine run_seq ?_
    refine run_region ?_
    refine RunL.cons (Op1.move (v := .slice _ _ _) rfl ?_)
    refine RunL.cons (Op1.move (v := .int .i64 _) rfl ?_)
    refine RunL.cons (Op1.indexSl ty106 ty3 rfl rfl (by omega) (by omega) ?_)
    refine RunL.cons (Op1.load1 (v := .int .i64 _) ty3 rfl rfl (hst.cellL (.head _) rfl) ?_)
    refine RunL.cons (Op1.move (v := .int .i64 _) rfl ?_)
    refine RunL.cons (Op1.lss rfl rfl ?_)
    refine RunL.nil ?_
    refine run_cond_dec rfl (fun g16 => ?_) (fun g16 => ?_)
    · skip
      refine run_region ?_
      refine RunL.cons (Op1.move (v := .slice _ _ _) rfl ?_)
      refine RunL.cons (Op1.move (v := .int .i64 _) rfl ?_)
      refine RunL.cons (Op1.indexSl ty106 ty3 rfl rfl (by omega) (by omega) ?_)
      refine RunL.cons (Op1.load1 (v := .int .i64 _) ty3 rfl rfl (hst.cellL (.head _) rfl) ?_)
      refine RunL.cons (Op1.assign (v := .int .i64 _) rfl ?_)
      refine RunL.nil ?_
      exact cut1 ((clampZ b)) _ w hst (by omega) ⟨rfl, rfl, rfl, trivial⟩ ⟨rfl, trivial⟩
    · skip
      refine run_skip ?_
      exact cut1 ((clampZ a)) _ w hst (by omega) ⟨rfl, rfl, rfl, trivial⟩ ⟨rfl, trivial⟩

def sideF (lo hi x : Int) : Int := if fromZ lo < toZ hi x then fromZ lo else -1
def sideT (lo hi x : Int) : Int := if fromZ lo < toZ hi x then toZ hi x else 0
theorem side_out {lo hi x : Int} (hx : 0 ≤ x) (h : 16 * x + 8 < lo ∨ hi < 16 * x + 8) : sideF lo hi (x + 1) = sideF lo hi x ∧ sideT lo hi (x + 1) = sideT lo hi x := by
  unfold sideF sideT fromZ toZ; constructor <;> (repeat' split) <;> omega
theorem side_first {lo hi x : Int} (hx : 0 ≤ x) (h : ¬ (16 * x + 8 < lo ∨ hi < 16 * x + 8)) (hf : sideF lo hi x < 0) : sideF lo hi (x + 1) = x ∧ sideT lo hi (x + 1) = x + 1 := by
  unfold sideF fromZ toZ at hf; unfold sideF sideT fromZ toZ
  split at hf <;> constructor <;> (repeat' split) <;> omega
theorem side_next {lo hi x : Int} (hx : 0 ≤ x) (h : ¬ (16 * x + 8 < lo ∨ hi < 16 * x + 8)) (hf : ¬ sideF lo hi x < 0) : sideF lo hi (x + 1) = sideF lo hi x ∧ sideT lo hi (x + 1) = x + 1 := by
  unfold sideF fromZ toZ at hf; unfold sideF sideT fromZ toZ
  split at hf <;> constructor <;> (repeat' split) <;> omega
theorem side_zero {lo hi : Int} : sideF lo hi 0 = -1 ∧ sideT lo hi 0 = 0 := by
  unfold sideF sideT fromZ toZ; constructor <;> split <;> omega
theorem side_is {lo hi sz : Int} (h : fromZ lo < toZ hi sz) : sideF lo hi sz = fromZ lo ∧ sideT lo hi sz = toZ hi sz := by
  unfold sideF sideT; rw [if_pos h, if_pos h]; exact ⟨rfl, rfl⟩
theorem sideF_pos {lo hi sz : Int} : decide (0 ≤ sideF lo hi sz) = decide (fromZ lo < toZ hi sz) := by
  rw [decide_eq_decide]; unfold sideF
  have : 0 ≤ fromZ lo := by unfold fromZ; omega
  split <;> omega
theorem ref_side28 (lo hi sz : Int) (hlo : -32768 ≤ lo ∧ lo ≤ 32767) (hhi : -32768 ≤ hi ∧ hi ≤ 32767) (hsz : 1 ≤ sz ∧ sz ≤ 1024) (w : World) : Ret Try.prog 65 #[.int .i64 lo, .int .i64 hi, .int .i64 sz] w (fun v w' => v = .tuple #[.agg #[.int .i64 (sideF lo hi sz), .int .i64 (sideT lo hi sz)], .bool (decide (fromZ lo < toZ hi sz))] ∧ St w NoM [] [] w') := by
  refine Ret.enter (args := [.int .i64 lo, .int .i64 hi, .int .i64 sz]) Try.func65 rfl rfl rfl ?_
  have hst := St.init w
  refine run_seq ?_
  refine run_region ?_
  refine RunL.cons (Op1.alloc hst ty47 fun w b6 hst => ?_)
  refine RunL.cons (Op1.assign (v := .bool _) rfl ?_)
  refine RunL.nil ?_
  refine run_seq ?_
  refine run_region ?_
  refine RunL.cons (Op1.buildStruct ty47 stf47 (.cons rfl (v := .int .i64 _) rfl rfl rfl rfl (by repeat (first | exact Put.nil | apply Put.put | apply Put.skip)) .nil) ?_)
  refine RunL.cons (Op1.alloc hst ty47 fun w b8 hst => ?_)
  refine RunL.cons (Op1.store (v := .agg #[.int .i64 _, .int .i64 _]) hst ty47 rfl rfl rfl rfl rfl (.here) (by repeat (first | exact Put.nil | apply Put.put | apply Put.skip)) fun w hst => ?_)
  refine RunL.nil ?_
  refine run_seq ?_
  refine run_seq ?_
  refine run_region ?_
  refine RunL.cons (Op1.assign (v := .int .i64 _) rfl ?_)
  refine RunL.nil ?_
  refine run_block ?_
  refine run_loop ?_
  have sta1 := hst.static (L1 := [_])
  replace hst := hst.toD (L1 := [_])
  refine Run.indS (fun (x : Int) => [(9, .int .i64 x)]) [0, 1, 2, 6, 8] (fun (x : Int) => [Res.row b8 47 [.int .i64 (sideF lo hi x), .int .i64 (sideT lo hi x)]]) (fun (x : Int) => 0 ≤ x ∧ x ≤ sz) (fun (x : Int) => (sz - x).toNat) 0 (by (try dsimp only); rw [side_zero.1, side_zero.2]; exact hst) ⟨by omega, by omega⟩ ⟨rfl, trivial⟩ (Keep.refl _ _) ?_
  intro x f w kf2 hst hJ ih3
  replace hst := hst.back sta1
  refine Run.slots (sl := [(0, .int .i64 _), (1, .int .i64 _), (2, .int .i64 _), (6, .pointer (some ⟨_, _, none⟩)), (8, .pointer (some ⟨_, _, none⟩))]) ⟨(kf2.get 0 rfl).trans rfl, (kf2.get 1 rfl).trans rfl, (kf2.get 2 rfl).trans rfl, (kf2.get 6 rfl).trans rfl, (kf2.get 8 rfl).trans rfl, trivial⟩ ?_
  refine run_seq ?_
  refine run_seq ?_
  refine run_region ?_
  refine RunL.cons (Op1.move (v := .int .i64 _) rfl ?_)
  refine RunL.cons (Op1.move (v := .int .i64 _) rfl ?_)
  refine RunL.cons (Op1.lss rfl rfl ?_)
  refine RunL.nil ?_
  refine run_cond_dec rfl (fun g4 => ?_) (fun g4 => ?_)
  · skip
    refine run_skip ?_
    refine run_seq ?_
    refine run_block ?_
    refine run_seq ?_
    refine run_seq ?_
    refine run_region ?_
    refine RunL.cons (Op1.move (v := .int .i64 _) rfl ?_)
    first | refine RunL.cons (Op1.mulN rfl rfl rfl (wrap_i64 (by omega) (by omega)) ?_) | refine RunL.cons (Op1.mulB rfl rfl (by omega) (by omega) (by omega) (by omega) (fun hm5 hm6 => ?_))
    refine RunL.cons (Op1.addN rfl rfl rfl (wrap_i64 (by omega) (by omega)) ?_)
    refine RunL.cons (Op1.move (v := .int .i64 _) rfl ?_)
    refine RunL.cons (Op1.lss rfl rfl ?_)
    refine RunL.cons (Op1.move (v := .bool _) rfl ?_)
    refine RunL.splitD (d := 21) rfl (fun g7 => ?_) (fun g7 => ?_)
    · skip
      refine RunL.omit (t := 21) rfl (congrArg Value.bool (decide_eq_true g7)) rfl ?_
      refine RunL.omit (t := 21) rfl (congrArg Value.bool (decide_eq_true g7)) rfl ?_
      refine RunL.omit (t := 21) rfl (congrArg Value.bool (decide_eq_true g7)) rfl ?_
      refine RunL.omit (t := 21) rfl (congrArg Value.bool (decide_eq_true g7)) rfl ?_
      refine RunL.omit (t := 21) rfl (congrArg Value.bool (decide_eq_true g7)) rfl ?_
      refine RunL.cons (Op1.pickT (u := .bool _) (congrArg Value.bool (decide_eq_true g7)) rfl ?_)
      refine RunL.nil ?_
      refine run_cond_true (congrArg Value.bool (rfl : true = _)) ?_
      refine run_exit (id := 1) rfl ?_
      refine run_region ?_
      refine RunL.cons (Op1.move (v := .int .i64 _) rfl ?_)
      refine RunL.cons (Op1.addN rfl rfl rfl (wrap_i64 (by omega) (by omega)) ?_)
      refine RunL.cons (Op1.assign (v := .int .i64 _) rfl ?_)
      refine RunL.nil ?_
      refine run_inLoop ?_
      have he := side_out (lo := lo) (hi := hi) (x := x) (by omega) (by omega)
      replace hst := hst.toD (L1 := [_])
      exact ih3 (x + 1) _ w (by omega) (by (try dsimp only); rw [he.1, he.2]; exact hst) (⟨by omega, by omega⟩) ⟨rfl, rfl, rfl, rfl, rfl, trivial⟩ ⟨rfl, trivial⟩
    · skip
      refine RunL.take (t := 21) rfl (congrArg Value.bool (decide_eq_false g7)) (Op1.move (v := .int .i64 _) rfl ?_)
      first | refine RunL.take (t := 21) rfl (congrArg Value.bool (decide_eq_false g7)) (Op1.mulN rfl rfl rfl (wrap_i64 (by omega) (by omega)) ?_) | refine RunL.take (t := 21) rfl (congrArg Value.bool (decide_eq_false g7)) (Op1.mulB rfl rfl (by omega) (by omega) (by omega) (by omega) (fun hm8 hm9 => ?_))
      refine RunL.take (t := 21) rfl (congrArg Value.bool (decide_eq_false g7)) (Op1.addN rfl rfl rfl (wrap_i64 (by omega) (by omega)) ?_)
      refine RunL.take (t := 21) rfl (congrArg Value.bool (decide_eq_false g7)) (Op1.move (v := .int .i64 _) rfl ?_)
      refine RunL.take (t := 21) rfl (congrArg Value.bool (decide_eq_false g7)) (Op1.gtr rfl rfl ?_)
      refine RunL.cons (Op1.pickF (u := .bool _) (congrArg Value.bool (decide_eq_false g7)) rfl ?_)
      refine RunL.nil ?_
      refine run_cond_dec rfl (fun g10 => ?_) (fun g10 => ?_)
      · skip
        refine run_exit (id := 1) rfl ?_
        refine run_region ?_
        refine RunL.cons (Op1.move (v := .int .i64 _) rfl ?_)
        refine RunL.cons (Op1.addN rfl rfl rfl (wrap_i64 (by omega) (by omega)) ?_)
        refine RunL.cons (Op1.assign (v := .int .i64 _) rfl ?_)
        refine RunL.nil ?_
        refine run_inLoop ?_
        have he := side_out (lo := lo) (hi := hi) (x := x) (by omega) (by omega)
        replace hst := hst.toD (L1 := [_])
        exact ih3 (x + 1) _ w (by omega) (by (try dsimp only); rw [he.1, he.2]; exact hst) (⟨by omega, by omega⟩) ⟨rfl, rfl, rfl, rfl, rfl, trivial⟩ ⟨rfl, trivial⟩
      · skip
        refine run_skip ?_
        refine run_seq ?_
        refine run_seq ?_
        refine run_region ?_
        refine RunL.cons (Op1.fieldAddr fld47_0 rfl ?_)
        refine RunL.cons (Op1.load1 (v := .int .i64 _) ty3 rfl rfl (hst.cellL (.head _) rfl) ?_)
        refine RunL.cons (Op1.lss rfl rfl ?_)
        refine RunL.nil ?_
        refine run_cond_dec rfl (fun g11 => ?_) (fun g11 => ?_)
        · skip
          refine run_region ?_
          refine RunL.cons (Op1.move (v := .int .i64 _) rfl ?_)
          refine RunL.cons (Op1.fieldAddr fld47_0 rfl ?_)
          refine RunL.cons (Op1.store (v := .int .i64 _) hst ty3 rfl rfl rfl rfl rfl (.here) (by repeat (first | exact Put.nil | apply Put.put | apply Put.skip)) fun w hst => ?_)
          refine RunL.nil ?_
          refine run_region ?_
          refine RunL.cons (Op1.move (v := .int .i64 _) rfl ?_)
          refine RunL.cons (Op1.addN rfl rfl rfl (wrap_i64 (by omega) (by omega)) ?_)
          refine RunL.cons (Op1.fieldAddr fld47_1 rfl ?_)
          refine RunL.cons (Op1.store (v := .int .i64 _) hst ty3 rfl rfl rfl rfl rfl (.here) (by repeat (first | exact Put.nil | apply Put.put | apply Put.skip)) fun w hst => ?_)
          refine RunL.nil ?_
          refine run_inBlock ?_
          refine run_region ?_
          refine RunL.cons (Op1.move (v := .int .i64 _) rfl ?_)
          refine RunL.cons (Op1.addN rfl rfl rfl (wrap_i64 (by omega) (by omega)) ?_)
          refine RunL.cons (Op1.assign (v := .int .i64 _) rfl ?_)
          refine RunL.nil ?_
          refine run_inLoop ?_
          have he := side_first (lo := lo) (hi := hi) (x := x) (by omega) (by omega) g11
          replace hst := hst.toD (L1 := [_])
          exact ih3 (x + 1) _ w (by omega) (by (try dsimp only); rw [he.1, he.2]; exact hst) (⟨by omega, by omega⟩) ⟨rfl, rfl, rfl, rfl, rfl, trivial⟩ ⟨rfl, trivial⟩
        · skip
          refine run_skip ?_
          refine run_region ?_
          refine RunL.cons (Op1.move (v := .int .i64 _) rfl ?_)
          refine RunL.cons (Op1.addN rfl rfl rfl (wrap_i64 (by omega) (by omega)) ?_)
          refine RunL.cons (Op1.fieldAddr fld47_1 rfl ?_)
          refine RunL.cons (Op1.store (v := .int .i64 _) hst ty3 rfl rfl rfl rfl rfl (.here) (by repeat (first | exact Put.nil | apply Put.put | apply Put.skip)) fun w hst => ?_)
          refine RunL.nil ?_
          refine run_inBlock ?_
          refine run_region ?_
          refine RunL.cons (Op1.move (v := .int .i64 _) rfl ?_)
          refine RunL.cons (Op1.addN rfl rfl rfl (wrap_i64 (by omega) (by omega)) ?_)
          refine RunL.cons (Op1.assign (v := .int .i64 _) rfl ?_)
          refine RunL.nil ?_
          refine run_inLoop ?_
          have he := side_next (lo := lo) (hi := hi) (x := x) (by omega) (by omega) g11
          replace hst := hst.toD (L1 := [_])
          exact ih3 (x + 1) _ w (by omega) (by (try dsimp only); rw [he.1, he.2]; exact hst) (⟨by omega, by omega⟩) ⟨rfl, rfl, rfl, rfl, rfl, trivial⟩ ⟨rfl, trivial⟩
  · skip
    refine run_exit (id := 0) rfl ?_
    refine run_seq ?_
    replace hst := hst.pick (.cons (.there (.here)) (.cons (.here) .nil))
    apply RunD.start [(4, Res.row b6 47 _, Res.row b6 47 _)] hst (bs := [0, 0, 2, 6, 1, 31]) (ds := [some 36, some 37, some 38, some 39, none, some 7]) (htab := ⟨by kernel_rfl, by kernel_rfl, by kernel_rfl⟩)
    intro tab12
    refine RunD.op (det _) tab12 1 (fun f' L' w' hc => Op1.loadA (vs := [.int .i64 _, .int .i64 _]) ty47 rfl (hc.old (v := .pointer (some ⟨_, _, none⟩)) rfl rfl rfl) rfl (cells_of_obj (n := 2) (hc.st.objL (List.mem_append_right _ (.head _))) _ rfl) ⟨[], ⟨rfl, rfl⟩, hc.st⟩) ?_
    refine RunD.op (det _) tab12 2 (fun f' L' w' hc => Op1.fieldAddr fld47_0 (hc.old (v := .pointer (some ⟨_, _, none⟩)) rfl rfl rfl) ⟨[], ⟨rfl, rfl⟩, hc.st⟩) ?_
    refine RunD.op (det _) tab12 3 (fun f' L' w' hc => Op1.load1 (v := .int .i64 _) ty3 rfl (hc.det (j := 1) rfl rfl rfl rfl) (hc.st.cellL (List.mem_append_right _ (.head _)) rfl) ⟨[], ⟨rfl, rfl⟩, hc.st⟩) ?_
    refine RunD.op (det _) tab12 4 (fun f' L' w' hc => Op1.geq (hc.det (j := 2) rfl rfl rfl rfl) rfl ⟨[], ⟨rfl, rfl⟩, hc.st⟩) ?_
    refine RunD.own tab12 5 (.head _) (fun f' L' L2 w' hc hsel => Op1.store (v := .agg #[.int .i64 _, .int .i64 _]) hc.st ty47 (hc.old (v := .pointer (some ⟨_, _, none⟩)) rfl rfl rfl) (hc.det (j := 0) rfl rfl rfl rfl) rfl rfl rfl hsel (by repeat (first | exact Put.nil | apply Put.put | apply Put.skip)) fun w hst => ⟨rfl, hst⟩) ?_
    refine RunD.fin followsMixed tab12 hst rfl (fun f13 w R16 hs14 hd15 hr17 hst => ?_)
    obtain ⟨h36_, r0⟩ := hd15 0 36 rfl rfl
    obtain ⟨h37_, r1⟩ := hd15 1 37 rfl rfl
    obtain ⟨h38_, r2⟩ := hd15 2 38 rfl rfl
    obtain ⟨h39_, r3⟩ := hd15 3 39 rfl rfl
    obtain ⟨_, _, r4⟩ := hr17 4 rfl
    simp only [show List.range 5 = [0, 1, 2, 3, 4] from rfl, List.flatMap_cons, List.flatMap_nil, List.map_cons, List.map_nil, r0, r1, r2, r3, r4, List.nil_append, List.append_nil, List.cons_append] at hst
    refine RunL.slots (sl := [(6, .pointer (some ⟨_, _, none⟩)), (39, .bool _)]) ⟨(hs14 6 rfl).trans rfl, h39_, trivial⟩ ?_
    clear hs14 hd15 hr17 tab12
    refine RunL.cons (Op1.assign (v := .bool _) rfl ?_)
    refine RunL.nil ?_
    refine run_ret2 Try.func65 rfl (RV.cellA (vs := [.int .i64 _, .int .i64 _]) rfl ty47 rfl rfl (cells_of_obj (n := 2) (hst.objL (.head _)) _ rfl)) (RV.tmp (v := .bool _) rfl) ?_
    obtain rfl : x = sz := by omega
    rw [sideF_pos]
    exact ⟨rfl, hst.pure⟩

theorem refbox_yes {ax ay bx by_ cx cy wd ht : Int} (h : ((1 ≤ wd ∧ wd ≤ 1024 ∧ 1 ≤ ht ∧ ht ≤ 1024) ∧ fromZ (lo3 ax bx cx) < toZ (hi3 ax bx cx) wd ∧ fromZ (lo3 ay by_ cy) < toZ (hi3 ay by_ cy) ht)) :
    boxT (sideF (lo3 ax bx cx) (hi3 ax bx cx) wd, sideT (lo3 ax bx cx) (hi3 ax bx cx) wd, sideF (lo3 ay by_ cy) (hi3 ay by_ cy) ht, sideT (lo3 ay by_ cy) (hi3 ay by_ cy) ht) true = boxT (boxV ax ay bx by_ cx cy wd ht) (boxIs ax ay bx by_ cx cy wd ht) := by
  rw [← boxV_yes h, (side_is h.2.1).1, (side_is h.2.1).2, (side_is h.2.2).1, (side_is h.2.2).2]
theorem lo3_bd (a b c : Int) : -32768 ≤ lo3 (clampZ a) (clampZ b) (clampZ c) ∧ lo3 (clampZ a) (clampZ b) (clampZ c) ≤ 32767 := by
  have := clampZ_bd a; have := clampZ_bd b; have := clampZ_bd c; unfold lo3; omega
theorem hi3_bd (a b c : Int) : -32768 ≤ hi3 (clampZ a) (clampZ b) (clampZ c) ∧ hi3 (clampZ a) (clampZ b) (clampZ c) ≤ 32767 := by
  have := clampZ_bd a; have := clampZ_bd b; have := clampZ_bd c; unfold hi3; omega
theorem ref_Box28 (ax ay az bx by_ bz cx cy cz : Int) (wd ht : Int) (w : World) : Ret Try.prog 38 #[.agg #[.int .i32 ax, .int .i32 ay, .int .i32 az, .int .i32 bx, .int .i32 by_, .int .i32 bz, .int .i32 cx, .int .i32 cy, .int .i32 cz], .int .i64 wd, .int .i64 ht] w (fun v w' => v = boxT (boxV (clampZ ax) (clampZ ay) (clampZ bx) (clampZ by_) (clampZ cx) (clampZ cy) wd ht) (boxIs (clampZ ax) (clampZ ay) (clampZ bx) (clampZ by_) (clampZ cx) (clampZ cy) wd ht) ∧ St w NoM [] [] w') := by
  refine Ret.enter (args := [.agg #[.int .i32 ax, .int .i32 ay, .int .i32 az, .int .i32 bx, .int .i32 by_, .int .i32 bz, .int .i32 cx, .int .i32 cy, .int .i32 cz], .int .i64 wd, .int .i64 ht]) Try.func38 rfl rfl rfl ?_
  have hst := St.init w
  refine run_seq ?_
  refine run_region ?_
  refine RunL.cons (Op1.box (v := .agg #[.int .i32 _, .int .i32 _, .int .i32 _, .int .i32 _, .int .i32 _, .int .i32 _, .int .i32 _, .int .i32 _, .int .i32 _]) hst rfl rfl fun w b3 hst => ?_)
  refine RunL.cons (Op1.alloc hst ty47 fun w b6 hst => ?_)
  refine RunL.cons (Op1.alloc hst ty47 fun w b7 hst => ?_)
  refine RunL.cons (Op1.assign (v := .bool _) rfl ?_)
  refine RunL.nil ?_
  refine run_seq ?_
  refine run_seq ?_
  refine run_region ?_
  refine RunL.cons (Op1.move (v := .int .i64 _) rfl ?_)
  refine RunL.cons (Op1.move (v := .int .i64 _) rfl ?_)
  refine RunL.cons (Op1.call2 (v1 := .int .i64 _) (v2 := .int .i64 _) ent63 rfl rfl rfl ((ref_picture _ _ _).mono fun v w hp => ?_))
  obtain ⟨rfl, hp⟩ := hp
  replace hst := hst.keepc hp
  clear hp
  refine RunL.cons (Op1.notD rfl ?_)
  refine RunL.nil ?_
  refine run_cond_dec rfl (fun g1 => ?_) (fun g1 => ?_)
  · skip
    refine run_seq ?_
    refine run_region ?_
    refine RunL.cons (Op1.buildStruct ty47 stf47 .nil ?_)
    refine RunL.cons (Op1.buildStruct ty47 stf47 .nil ?_)
    refine RunL.cons (Op1.store (v := .agg #[.int .i64 _, .int .i64 _]) hst ty47 rfl rfl rfl rfl rfl (.there (.here)) (by repeat (first | exact Put.nil | apply Put.put | apply Put.skip)) fun w hst => ?_)
    refine RunL.cons (Op1.store (v := .agg #[.int .i64 _, .int .i64 _]) hst ty47 rfl rfl rfl rfl rfl (.here) (by repeat (first | exact Put.nil | apply Put.put | apply Put.skip)) fun w hst => ?_)
    refine RunL.cons (Op1.assign (v := .bool _) rfl ?_)
    refine RunL.nil ?_
    refine run_ret3 Try.func38 rfl (RV.cellA (vs := [.int .i64 _, .int .i64 _]) rfl ty47 rfl rfl (cells_of_obj (n := 2) (hst.objL (.tail _ (.head _))) _ rfl)) (RV.cellA (vs := [.int .i64 _, .int .i64 _]) rfl ty47 rfl rfl (cells_of_obj (n := 2) (hst.objL (.head _)) _ rfl)) (RV.tmp (v := .bool _) rfl) ?_
    exact ⟨boxV_no (by omega), hst.pure⟩
  · skip
    refine run_skip ?_
    refine run_seq ?_
    refine run_region ?_
    refine RunL.cons (Op1.indexArr ty27 ty25 rfl rfl (by decide) (by decide) ?_)
    refine RunL.cons (Op1.fieldAddr fld25_0 rfl ?_)
    refine RunL.cons (Op1.load1 (v := .int .i32 _) ty21 rfl rfl (hst.cellL (.tail _ (.tail _ (.head _))) rfl) ?_)
    refine RunL.cons (Op1.indexArr ty27 ty25 rfl rfl (by decide) (by decide) ?_)
    refine RunL.cons (Op1.fieldAddr fld25_0 rfl ?_)
    refine RunL.cons (Op1.load1 (v := .int .i32 _) ty21 rfl rfl (hst.cellL (.tail _ (.tail _ (.head _))) rfl) ?_)
    refine RunL.cons (Op1.indexArr ty27 ty25 rfl rfl (by decide) (by decide) ?_)
    refine RunL.cons (Op1.fieldAddr fld25_0 rfl ?_)
    refine RunL.cons (Op1.load1 (v := .int .i32 _) ty21 rfl rfl (hst.cellL (.tail _ (.tail _ (.head _))) rfl) ?_)
    refine RunL.cons (Op1.call3 (v1 := .int .i32 _) (v2 := .int .i32 _) (v3 := .int .i32 _) ent64 rfl rfl rfl rfl ((ref_ends28 _ _ _ _).mono fun v w hp => ?_))
    obtain ⟨rfl, hp⟩ := hp
    replace hst := hst.keepc hp
    clear hp
    refine RunL.cons (Op1.move (v := .tuple #[.int .i64 _, .int .i64 _]) rfl ?_)
    refine RunL.cons (Op1.extract (v := .int .i64 _) rfl rfl ?_)
    refine RunL.cons (Op1.extract (v := .int .i64 _) rfl rfl ?_)
    refine RunL.cons (Op1.assign (v := .int .i64 _) rfl ?_)
    refine RunL.cons (Op1.assign (v := .int .i64 _) rfl ?_)
    refine RunL.nil ?_
    refine run_seq ?_
    refine run_region ?_
    refine RunL.cons (Op1.indexArr ty27 ty25 rfl rfl (by decide) (by decide) ?_)
    refine RunL.cons (Op1.fieldAddr fld25_1 rfl ?_)
    refine RunL.cons (Op1.load1 (v := .int .i32 _) ty21 rfl rfl (hst.cellL (.tail _ (.tail _ (.head _))) rfl) ?_)
    refine RunL.cons (Op1.indexArr ty27 ty25 rfl rfl (by decide) (by decide) ?_)
    refine RunL.cons (Op1.fieldAddr fld25_1 rfl ?_)
    refine RunL.cons (Op1.load1 (v := .int .i32 _) ty21 rfl rfl (hst.cellL (.tail _ (.tail _ (.head _))) rfl) ?_)
    refine RunL.cons (Op1.indexArr ty27 ty25 rfl rfl (by decide) (by decide) ?_)
    refine RunL.cons (Op1.fieldAddr fld25_1 rfl ?_)
    refine RunL.cons (Op1.load1 (v := .int .i32 _) ty21 rfl rfl (hst.cellL (.tail _ (.tail _ (.head _))) rfl) ?_)
    refine RunL.cons (Op1.call3 (v1 := .int .i32 _) (v2 := .int .i32 _) (v3 := .int .i32 _) ent64 rfl rfl rfl rfl ((ref_ends28 _ _ _ _).mono fun v w hp => ?_))
    obtain ⟨rfl, hp⟩ := hp
    replace hst := hst.keepc hp
    clear hp
    refine RunL.cons (Op1.move (v := .tuple #[.int .i64 _, .int .i64 _]) rfl ?_)
    refine RunL.cons (Op1.extract (v := .int .i64 _) rfl rfl ?_)
    refine RunL.cons (Op1.extract (v := .int .i64 _) rfl rfl ?_)
    refine RunL.cons (Op1.assign (v := .int .i64 _) rfl ?_)
    refine RunL.cons (Op1.assign (v := .int .i64 _) rfl ?_)
    refine RunL.nil ?_
    refine run_seq ?_
    refine run_region ?_
    refine RunL.cons (Op1.move (v := .int .i64 _) rfl ?_)
    refine RunL.cons (Op1.move (v := .int .i64 _) rfl ?_)
    refine RunL.cons (Op1.move (v := .int .i64 _) rfl ?_)
    refine RunL.cons (Op1.call3 (v1 := .int .i64 _) (v2 := .int .i64 _) (v3 := .int .i64 _) ent65 rfl rfl rfl rfl ((ref_side28 _ _ _ (lo3_bd _ _ _) (hi3_bd _ _ _) (by omega) _).mono fun v w hp => ?_))
    obtain ⟨rfl, hp⟩ := hp
    replace hst := hst.keepc hp
    clear hp
    refine RunL.cons (Op1.move (v := .tuple #[.agg #[.int .i64 _, .int .i64 _], .bool _]) rfl ?_)
    refine RunL.cons (Op1.extract (v := .agg #[.int .i64 _, .int .i64 _]) rfl rfl ?_)
    refine RunL.cons (Op1.extract (v := .bool _) rfl rfl ?_)
    refine RunL.cons (Op1.alloc hst ty47 fun w b13 hst => ?_)
    refine RunL.cons (Op1.store (v := .agg #[.int .i64 _, .int .i64 _]) hst ty47 rfl rfl rfl rfl rfl (.here) (by repeat (first | exact Put.nil | apply Put.put | apply Put.skip)) fun w hst => ?_)
    refine RunL.cons (Op1.assign (v := .bool _) rfl ?_)
    refine RunL.nil ?_
    refine run_seq ?_
    refine run_region ?_
    refine RunL.cons (Op1.move (v := .int .i64 _) rfl ?_)
    refine RunL.cons (Op1.move (v := .int .i64 _) rfl ?_)
    refine RunL.cons (Op1.move (v := .int .i64 _) rfl ?_)
    refine RunL.cons (Op1.call3 (v1 := .int .i64 _) (v2 := .int .i64 _) (v3 := .int .i64 _) ent65 rfl rfl rfl rfl ((ref_side28 _ _ _ (lo3_bd _ _ _) (hi3_bd _ _ _) (by omega) _).mono fun v w hp => ?_))
    obtain ⟨rfl, hp⟩ := hp
    replace hst := hst.keepc hp
    clear hp
    refine RunL.cons (Op1.move (v := .tuple #[.agg #[.int .i64 _, .int .i64 _], .bool _]) rfl ?_)
    refine RunL.cons (Op1.extract (v := .agg #[.int .i64 _, .int .i64 _]) rfl rfl ?_)
    refine RunL.cons (Op1.extract (v := .bool _) rfl rfl ?_)
    refine RunL.cons (Op1.alloc hst ty47 fun w b15 hst => ?_)
    refine RunL.cons (Op1.store (v := .agg #[.int .i64 _, .int .i64 _]) hst ty47 rfl rfl rfl rfl rfl (.here) (by repeat (first | exact Put.nil | apply Put.put | apply Put.skip)) fun w hst => ?_)
    refine RunL.cons (Op1.assign (v := .bool _) rfl ?_)
    refine RunL.nil ?_
    refine run_seq ?_
    refine run_seq ?_
    refine run_region ?_
    refine RunL.cons (Op1.move (v := .bool _) rfl ?_)
    refine RunL.cons (Op1.notD rfl ?_)
    refine RunL.cons (Op1.move (v := .bool _) rfl ?_)
    refine RunL.splitD (d := 65) rfl (fun g2 => ?_) (fun g2 => ?_)
    · skip
      refine RunL.omit (t := 65) rfl (congrArg Value.bool (decide_eq_true g2)) rfl ?_
      refine RunL.omit (t := 65) rfl (congrArg Value.bool (decide_eq_true g2)) rfl ?_
      refine RunL.cons (Op1.pickT (u := .bool _) (congrArg Value.bool (decide_eq_true g2)) rfl ?_)
      refine RunL.nil ?_
      refine run_cond_true (congrArg Value.bool (rfl : true = _)) ?_
      refine run_seq ?_
      refine run_region ?_
      refine RunL.cons (Op1.buildStruct ty47 stf47 .nil ?_)
      refine RunL.cons (Op1.buildStruct ty47 stf47 .nil ?_)
      refine RunL.cons (Op1.store (v := .agg #[.int .i64 _, .int .i64 _]) hst ty47 rfl rfl rfl rfl rfl (.there (.there (.there (.here)))) (by repeat (first | exact Put.nil | apply Put.put | apply Put.skip)) fun w hst => ?_)
      refine RunL.cons (Op1.store (v := .agg #[.int .i64 _, .int .i64 _]) hst ty47 rfl rfl rfl rfl rfl (.there (.there (.here))) (by repeat (first | exact Put.nil | apply Put.put | apply Put.skip)) fun w hst => ?_)
      refine RunL.cons (Op1.assign (v := .bool _) rfl ?_)
      refine RunL.nil ?_
      refine run_ret3 Try.func38 rfl (RV.cellA (vs := [.int .i64 _, .int .i64 _]) rfl ty47 rfl rfl (cells_of_obj (n := 2) (hst.objL (.tail _ (.tail _ (.tail _ (.head _))))) _ rfl)) (RV.cellA (vs := [.int .i64 _, .int .i64 _]) rfl ty47 rfl rfl (cells_of_obj (n := 2) (hst.objL (.tail _ (.tail _ (.head _)))) _ rfl)) (RV.tmp (v := .bool _) rfl) ?_
      exact ⟨boxV_no (by omega), hst.pure⟩
    · skip
      refine RunL.take (t := 65) rfl (congrArg Value.bool (decide_eq_false g2)) (Op1.move (v := .bool _) rfl ?_)
      refine RunL.take (t := 65) rfl (congrArg Value.bool (decide_eq_false g2)) (Op1.notD rfl ?_)
      refine RunL.cons (Op1.pickF (u := .bool _) (congrArg Value.bool (decide_eq_false g2)) rfl ?_)
      refine RunL.nil ?_
      refine run_cond_dec rfl (fun g3 => ?_) (fun g3 => ?_)
      · skip
        refine run_seq ?_
        refine run_region ?_
        refine RunL.cons (Op1.buildStruct ty47 stf47 .nil ?_)
        refine RunL.cons (Op1.buildStruct ty47 stf47 .nil ?_)
        refine RunL.cons (Op1.store (v := .agg #[.int .i64 _, .int .i64 _]) hst ty47 rfl rfl rfl rfl rfl (.there (.there (.there (.here)))) (by repeat (first | exact Put.nil | apply Put.put | apply Put.skip)) fun w hst => ?_)
        refine RunL.cons (Op1.store (v := .agg #[.int .i64 _, .int .i64 _]) hst ty47 rfl rfl rfl rfl rfl (.there (.there (.here))) (by repeat (first | exact Put.nil | apply Put.put | apply Put.skip)) fun w hst => ?_)
        refine RunL.cons (Op1.assign (v := .bool _) rfl ?_)
        refine RunL.nil ?_
        refine run_ret3 Try.func38 rfl (RV.cellA (vs := [.int .i64 _, .int .i64 _]) rfl ty47 rfl rfl (cells_of_obj (n := 2) (hst.objL (.tail _ (.tail _ (.tail _ (.head _))))) _ rfl)) (RV.cellA (vs := [.int .i64 _, .int .i64 _]) rfl ty47 rfl rfl (cells_of_obj (n := 2) (hst.objL (.tail _ (.tail _ (.head _)))) _ rfl)) (RV.tmp (v := .bool _) rfl) ?_
        exact ⟨boxV_no (by omega), hst.pure⟩
      · skip
        refine run_skip ?_
        refine run_seq ?_
        replace hst := hst.pick (.cons (.there (.there (.there (.here)))) (.cons (.here) (.cons (.here) (.cons (.here) (.cons (.here) .nil)))))
        apply RunD.start [(2, Res.row b6 47 _, Res.row b6 47 _)] hst (bs := [0, 0, 1, 7, 15]) (ds := [some 71, some 72, none, none, some 8]) (htab := ⟨by kernel_rfl, by kernel_rfl, by kernel_rfl⟩)
        intro tab4
        refine RunD.op (det _) tab4 1 (fun f' L' w' hc => Op1.loadA (vs := [.int .i64 _, .int .i64 _]) ty47 rfl (hc.old (v := .pointer (some ⟨_, _, none⟩)) rfl rfl rfl) rfl (cells_of_obj (n := 2) (hc.st.objL (List.mem_append_right _ (.tail _ (.head _)))) _ rfl) ⟨[], ⟨rfl, rfl⟩, hc.st⟩) ?_
        refine RunD.op (det _) tab4 2 (fun f' L' w' hc => Op1.loadA (vs := [.int .i64 _, .int .i64 _]) ty47 rfl (hc.old (v := .pointer (some ⟨_, _, none⟩)) rfl rfl rfl) rfl (cells_of_obj (n := 2) (hc.st.objL (List.mem_append_right _ (.head _))) _ rfl) ⟨[], ⟨rfl, rfl⟩, hc.st⟩) ?_
        refine RunD.own tab4 3 (.head _) (fun f' L' L2 w' hc hsel => Op1.store (v := .agg #[.int .i64 _, .int .i64 _]) hc.st ty47 (hc.old (v := .pointer (some ⟨_, _, none⟩)) rfl rfl rfl) (hc.det (j := 0) rfl rfl rfl rfl) rfl rfl rfl hsel (by repeat (first | exact Put.nil | apply Put.put | apply Put.skip)) fun w hst => ⟨rfl, hst⟩) ?_
        refine RunD.fin followsMixed tab4 hst rfl (fun f5 w R8 hs6 hd7 hr9 hst => ?_)
        obtain ⟨h71_, r0⟩ := hd7 0 71 rfl rfl
        obtain ⟨h72_, r1⟩ := hd7 1 72 rfl rfl
        obtain ⟨_, _, r2⟩ := hr9 2 rfl
        simp only [show List.range 3 = [0, 1, 2] from rfl, List.flatMap_cons, List.flatMap_nil, List.map_cons, List.map_nil, r0, r1, r2, List.nil_append, List.append_nil, List.cons_append] at hst
        refine RunL.slots (sl := [(6, .pointer (some ⟨_, _, none⟩)), (7, .pointer (some ⟨_, _, none⟩)), (72, .agg #[.int .i64 _, .int .i64 _])]) ⟨(hs6 6 rfl).trans rfl, (hs6 7 rfl).trans rfl, h72_, trivial⟩ ?_
        clear hs6 hd7 hr9 tab4
        refine RunL.cons (Op1.store (v := .agg #[.int .i64 _, .int .i64 _]) hst ty47 rfl rfl rfl rfl rfl (.there (.there (.there (.here)))) (by repeat (first | exact Put.nil | apply Put.put | apply Put.skip)) fun w hst => ?_)
        refine RunL.cons (Op1.assign (v := .bool _) rfl ?_)
        refine RunL.nil ?_
        refine run_ret3 Try.func38 rfl (RV.cellA (vs := [.int .i64 _, .int .i64 _]) rfl ty47 rfl rfl (cells_of_obj (n := 2) (hst.objL (.head _)) _ rfl)) (RV.cellA (vs := [.int .i64 _, .int .i64 _]) rfl ty47 rfl rfl (cells_of_obj (n := 2) (hst.objL (.tail _ (.tail _ (.tail _ (.head _))))) _ rfl)) (RV.tmp (v := .bool _) rfl) ?_
        exact ⟨refbox_yes ⟨by omega, by omega⟩, hst.pure⟩

end Go.SK
