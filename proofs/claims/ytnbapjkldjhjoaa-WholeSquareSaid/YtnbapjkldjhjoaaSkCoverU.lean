/-
  Walks of functions, and of the laws over them.
-/
import Derived.Test.YtnbapjkldjhjoaaSkFacts1
import Derived.Test.YtnbapjkldjhjoaaSkFacts2
import Derived.Test.YtnbapjkldjhjoaaSkCoverG
set_option linter.unusedVariables false
set_option linter.unusedSimpArgs false
namespace Go.SK
open Go Go.Proofs
open Go.RowKit
theorem law28_total (l : List (Int × Int × Int)) (ao : Option Addr) (cp : Nat) (w : World) (hA : (Res.sl ao l.length cp 56 3 (l.flatMap rowC)).holds w) (hbd : RowsBd l) : Ret Try.prog 51 #[.slice ao l.length cp] w (fun v w' => v = .int .i64 (totN l l.length) ∧ St w NoM [] [] w') := by
  refine Ret.enter (args := [.slice ao l.length cp]) Try.func51 rfl rfl rfl ?_
  have hst : St w NoM [] [Res.sl ao l.length cp 56 3 (l.flatMap rowC)] w := St.init_D hA
  clear hA
  have hbd1 := hbd.1
  refine run_seq ?_
  refine run_region ?_
  refine RunL.cons (Op1.assign (v := .int .i64 _) rfl ?_)
  refine RunL.nil ?_
  refine run_seq ?_
  refine run_region ?_
  refine RunL.cons (Op1.assign (v := .int .i64 _) rfl ?_)
  refine RunL.nil ?_
  refine run_seq ?_
  refine run_seq ?_
  refine run_region ?_
  refine RunL.cons (Op1.assign (v := .int .i64 _) rfl ?_)
  refine RunL.nil ?_
  refine run_block ?_
  refine run_loop ?_
  have sta1 := hst.static (L1 := [])
  replace hst := hst.toD (L1 := [])
  refine Run.indS (fun (i : Nat) => [(3, .int .i64 (totN l i)), (4, .int .i64 (i : Int))]) [0] (fun (i : Nat) => []) (fun (i : Nat) => i ≤ l.length) (fun (i : Nat) => l.length - i) 0 hst (Nat.zero_le _) ⟨rfl, rfl, trivial⟩ (Keep.refl _ _) ?_
  intro i f w kf2 hst hJ ih3
  replace hst := hst.back sta1
  have ht1 := totN_bd hbd i hJ
  refine Run.slots (sl := [(0, .slice _ _ _)]) ⟨(kf2.get 0 rfl).trans rfl, trivial⟩ ?_
  refine run_seq ?_
  refine run_seq ?_
  refine run_region ?_
  refine RunL.cons (Op1.move (v := .int .i64 _) rfl ?_)
  refine RunL.cons (Op1.move (v := .slice _ _ _) rfl ?_)
  refine RunL.cons (Op1.lenSl (rest := []) ty50 rfl ?_)
  refine RunL.cons (Op1.lss rfl rfl ?_)
  refine RunL.nil ?_
  refine run_cond_dec rfl (fun g4 => ?_) (fun g4 => ?_)
  · skip
    have hb2 : 0 ≤ (l.getD ((i : Int)).toNat (0, 0, 0)).2.1 ∧ (l.getD ((i : Int)).toNat (0, 0, 0)).2.1 < (l.getD ((i : Int)).toNat (0, 0, 0)).2.2 ∧ (l.getD ((i : Int)).toNat (0, 0, 0)).2.2 ≤ 1024 := hbd.2 i (by omega)
    refine run_skip ?_
    refine run_seq ?_
    refine run_block ?_
    obtain ⟨bs5, rfl⟩ := Res.sl_some (hst.hD _ (.head _)) (by omega)
    refine RunD.start [] hst (bs := [0, 0, 0, 6, 14, 30, 63, 0, 0, 384, 896, 1920, 4095, 8191]) (ds := [some 11, some 12, some 13, some 14, some 15, some 16, some 17, some 18, some 19, some 20, some 21, some 22, some 23, some 3]) ⟨by kernel_rfl, by kernel_rfl, by kernel_rfl⟩ (fun tab6 => ?_)
    refine RunD.op (det _) tab6 1 (fun f' L' w' hc => Op1.move (v := .int .i64 _) (hc.old (v := .int .i64 _) rfl rfl rfl) ⟨[], ⟨rfl, rfl⟩, hc.st⟩) ?_
    refine RunD.op (det _) tab6 2 (fun f' L' w' hc => Op1.move (v := .slice _ _ _) (hc.old (v := .slice _ _ _) rfl rfl rfl) ⟨[], ⟨rfl, rfl⟩, hc.st⟩) ?_
    refine RunD.op (det _) tab6 3 (fun f' L' w' hc => Op1.move (v := .int .i64 _) (hc.old (v := .int .i64 _) rfl rfl rfl) ⟨[], ⟨rfl, rfl⟩, hc.st⟩) ?_
    refine RunD.op (det _) tab6 4 (fun f' L' w' hc => Op1.indexSl ty50 ty56 (hc.det (j := 1) rfl rfl rfl rfl) (hc.det (j := 2) rfl rfl rfl rfl) (by omega) (by omega) ⟨[], ⟨rfl, rfl⟩, hc.st⟩) ?_
    refine RunD.op (det _) tab6 5 (fun f' L' w' hc => Op1.fieldAddr fld56_2 (hc.det (j := 3) rfl rfl rfl rfl) ⟨[], ⟨rfl, rfl⟩, hc.st⟩) ?_
    refine RunD.op (det _) tab6 6 (fun f' L' w' hc => Op1.load1 (v := .int .i64 _) ty3 rfl (hc.det (j := 4) rfl rfl rfl rfl) (Res.sl_cell (hc.st.hD _ (.head _)) (flat_cell (g := rowC) (d := (0, 0, 0)) rowC_len rfl (by omega))) ⟨[], ⟨rfl, rfl⟩, hc.st⟩) ?_
    refine RunD.op (det _) tab6 7 (fun f' L' w' hc => Op1.addN (hc.det (j := 0) rfl rfl rfl rfl) (hc.det (j := 5) rfl rfl rfl rfl) rfl (wrap_i64 (by omega) (by omega)) ⟨[], ⟨rfl, rfl⟩, hc.st⟩) ?_
    refine RunD.op (det _) tab6 8 (fun f' L' w' hc => Op1.move (v := .slice _ _ _) (hc.old (v := .slice _ _ _) rfl rfl rfl) ⟨[], ⟨rfl, rfl⟩, hc.st⟩) ?_
    refine RunD.op (det _) tab6 9 (fun f' L' w' hc => Op1.move (v := .int .i64 _) (hc.old (v := .int .i64 _) rfl rfl rfl) ⟨[], ⟨rfl, rfl⟩, hc.st⟩) ?_
    refine RunD.op (det _) tab6 10 (fun f' L' w' hc => Op1.indexSl ty50 ty56 (hc.det (j := 7) rfl rfl rfl rfl) (hc.det (j := 8) rfl rfl rfl rfl) (by omega) (by omega) ⟨[], ⟨rfl, rfl⟩, hc.st⟩) ?_
    refine RunD.op (det _) tab6 11 (fun f' L' w' hc => Op1.fieldAddr fld56_1 (hc.det (j := 9) rfl rfl rfl rfl) ⟨[], ⟨rfl, rfl⟩, hc.st⟩) ?_
    refine RunD.op (det _) tab6 12 (fun f' L' w' hc => Op1.load1 (v := .int .i64 _) ty3 rfl (hc.det (j := 10) rfl rfl rfl rfl) (Res.sl_cell (hc.st.hD _ (.head _)) (flat_cell (g := rowC) (d := (0, 0, 0)) rowC_len rfl (by omega))) ⟨[], ⟨rfl, rfl⟩, hc.st⟩) ?_
    refine RunD.fin followsMixed tab6 hst rfl (fun f7 w R10 hs8 hd9 hr11 hst => ?_)
    obtain ⟨h11_, r0⟩ := hd9 0 11 rfl rfl
    obtain ⟨h12_, r1⟩ := hd9 1 12 rfl rfl
    obtain ⟨h13_, r2⟩ := hd9 2 13 rfl rfl
    obtain ⟨h14_, r3⟩ := hd9 3 14 rfl rfl
    obtain ⟨h15_, r4⟩ := hd9 4 15 rfl rfl
    obtain ⟨h16_, r5⟩ := hd9 5 16 rfl rfl
    obtain ⟨h17_, r6⟩ := hd9 6 17 rfl rfl
    obtain ⟨h18_, r7⟩ := hd9 7 18 rfl rfl
    obtain ⟨h19_, r8⟩ := hd9 8 19 rfl rfl
    obtain ⟨h20_, r9⟩ := hd9 9 20 rfl rfl
    obtain ⟨h21_, r10⟩ := hd9 10 21 rfl rfl
    obtain ⟨h22_, r11⟩ := hd9 11 22 rfl rfl
    simp only [show List.range 12 = [0, 1, 2, 3, 4, 5, 6, 7, 8, 9, 10, 11] from rfl, List.flatMap_cons, List.flatMap_nil, List.map_cons, List.map_nil, r0, r1, r2, r3, r4, r5, r6, r7, r8, r9, r10, r11, List.nil_append, List.append_nil, List.cons_append] at hst
    refine RunL.slots (sl := [(0, .slice _ _ _), (4, .int .i64 _), (17, .int .i64 _), (22, .int .i64 _)]) ⟨(hs8 0 rfl).trans rfl, (hs8 4 rfl).trans rfl, h17_, h22_, trivial⟩ ?_
    clear hs8 hd9 hr11 tab6
    refine RunL.cons (Op1.subN rfl rfl rfl (wrap_i64 (by omega) (by omega)) ?_)
    refine RunL.cons (Op1.assign (v := .int .i64 _) rfl ?_)
    refine RunL.nil ?_
    refine run_inBlock ?_
    refine run_region ?_
    refine RunL.cons (Op1.move (v := .int .i64 _) rfl ?_)
    refine RunL.cons (Op1.addN rfl rfl rfl (wrap_i64 (by omega) (by omega)) ?_)
    refine RunL.cons (Op1.assign (v := .int .i64 _) rfl ?_)
    refine RunL.nil ?_
    refine run_inLoop ?_
    replace hst := hst.toD (L1 := [])
    exact ih3 (i + 1) _ w (by omega) hst (by omega) ⟨rfl, trivial⟩ ⟨(congrArg (Value.int .i64) (by simp only [totN, Int.toNat_natCast]; omega)), (congrArg (Value.int .i64) (by omega)), trivial⟩
  · skip
    obtain rfl : i = l.length := by omega
    refine run_exit (id := 0) rfl ?_
    refine run_seq ?_
    refine run_region ?_
    refine RunL.cons (Op1.move (v := .int .i64 _) rfl ?_)
    refine RunL.cons (Op1.assign (v := .int .i64 _) rfl ?_)
    refine RunL.nil ?_
    refine run_ret1 Try.func51 rfl (RV.tmp (v := .int .i64 _) rfl) ?_
    exact ⟨rfl, hst.pure⟩

def pixAt : List (Int × Int × Int) → Nat → Int × Int
  | [], _ => (0, 0)
  | r :: l, j => if j < (r.2.2 - r.2.1).toNat then (r.2.1 + j, r.1) else pixAt l (j - (r.2.2 - r.2.1).toNat)
theorem totN_cons (r : Int × Int × Int) (l : List (Int × Int × Int)) : ∀ i, totN (r :: l) (i + 1) = (r.2.2 - r.2.1) + totN l i
  | 0 => by simp [totN]
  | i + 1 => by
    rw [totN, totN_cons r l i, totN]
    simp only [List.getD_cons_succ]; omega
theorem RowsBd.tail {r : Int × Int × Int} {l : List (Int × Int × Int)} (h : RowsBd (r :: l)) : RowsBd l := ⟨by have := h.1; simp at this; omega, fun i hi => by have := h.2 (i + 1) (by simpa using hi); simpa using this⟩
theorem pixAt_row : ∀ {l : List (Int × Int × Int)} (hb : RowsBd l) {i : Nat} (hi : i < l.length) {x : Int} (h1 : (l.getD i (0, 0, 0)).2.1 ≤ x) (h2 : x < (l.getD i (0, 0, 0)).2.2), pixAt l (totN l i + (x - (l.getD i (0, 0, 0)).2.1)).toNat = (x, (l.getD i (0, 0, 0)).1)
  | [], _, i, hi, _, _, _ => by simp at hi
  | r :: l, hb, 0, hi, x, h1, h2 => by
    simp only [List.getD_cons_zero] at *
    rw [pixAt, if_pos (by simp only [totN]; omega)]
    simp only [totN, Prod.mk.injEq, and_true]; omega
  | r :: l, hb, i + 1, hi, x, h1, h2 => by
    have hr := hb.2 0 (by simp)
    simp only [List.getD_cons_zero] at hr
    simp only [List.getD_cons_succ] at *
    have hi' : i < l.length := by simpa using hi
    have ih := pixAt_row hb.tail hi' h1 h2
    have ht := totN_bd hb.tail i (by omega)
    rw [totN_cons, pixAt, if_neg (by omega), ← ih]
    congr 1; omega
end Go.SK
