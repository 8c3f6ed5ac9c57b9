/-
  Walks of functions, and of the laws over them.
-/
import Derived.Test.YtnbapjkldjhjoaaSkFacts1
import Derived.Test.YtnbapjkldjhjoaaSkCoverD
set_option linter.unusedVariables false
set_option linter.unusedSimpArgs false
namespace Go.SK
open Go Go.Proofs
open Go.RowKit
theorem list_ext_getD {α : Type} (d : α) {l m : List α} (hl : l.length = m.length) (h : ∀ j, j < l.length → l.getD j d = m.getD j d) : l = m := by
  apply List.ext_getElem hl
  intro i h1 h2
  have := h i h1
  simpa [List.getD, h1, h2] using this
theorem step_rows {la lb : List (Int × Int × Int)} {i : Nat} (h : ∀ j, j < i → la.getD j (0, 0, 0) = lb.getD j (0, 0, 0)) (e : la.getD i (0, 0, 0) = lb.getD i (0, 0, 0)) : ∀ j, j < i + 1 → la.getD j (0, 0, 0) = lb.getD j (0, 0, 0) := fun j hj => by
  by_cases hji : j = i
  · rw [hji]; exact e
  · exact h j (by omega)
theorem row_same {x y : Int × Int × Int} (h1 : x.1 = y.1) (h2 : x.2.1 = y.2.1) (h3 : x.2.2 = y.2.2) : x = y := by
  obtain ⟨a, b, c⟩ := x; obtain ⟨d, e, f⟩ := y; simp_all
theorem law28_rows (la lb : List (Int × Int × Int)) (ao bo : Option Addr) (ca cb : Nat) (w : World) (hA : (Res.sl ao la.length ca 56 3 (la.flatMap rowC)).holds w) (hB : (Res.sl bo lb.length cb 56 3 (lb.flatMap rowC)).holds w) (hla : la.length ≤ 1024) : Ret Try.prog 43 #[.slice ao la.length ca, .slice bo lb.length cb] w (fun v w' => v = .bool (decide (la = lb)) ∧ St w NoM [] [] w') := by
  refine Ret.enter (args := [.slice ao la.length ca, .slice bo lb.length cb]) Try.func43 rfl rfl rfl ?_
  have hst : St w NoM [] [Res.sl ao la.length ca 56 3 (la.flatMap rowC), Res.sl bo lb.length cb 56 3 (lb.flatMap rowC)] w := St.init_Ds (fun d hd => by cases hd with | head => exact hA | tail _ hd => cases hd with | head => exact hB | tail _ h => cases h)
  clear hA hB
  refine run_seq ?_
  refine run_region ?_
  refine RunL.cons (Op1.assign (v := .bool _) rfl ?_)
  refine RunL.nil ?_
  refine run_seq ?_
  refine run_seq ?_
  refine run_region ?_
  refine RunL.cons (Op1.move (v := .slice _ _ _) rfl ?_)
  refine RunL.cons (Op1.lenSl (rest := []) ty50 rfl ?_)
  refine RunL.cons (Op1.move (v := .slice _ _ _) rfl ?_)
  refine RunL.cons (Op1.lenSl (rest := []) ty50 rfl ?_)
  refine RunL.cons (Op1.neq rfl rfl ?_)
  refine RunL.nil ?_
  refine run_cond_dec rfl (fun g1 => ?_) (fun g1 => ?_)
  · skip
    refine run_seq ?_
    refine run_region ?_
    refine RunL.cons (Op1.assign (v := .bool _) rfl ?_)
    refine RunL.nil ?_
    refine run_ret1 Try.func43 rfl (RV.tmp (v := .bool _) rfl) ?_
    exact ⟨congrArg Value.bool (decide_eq_false (fun e => by subst e; omega)).symm, hst.pure⟩
  · skip
    refine run_skip ?_
    refine run_seq ?_
    refine run_seq ?_
    refine run_region ?_
    refine RunL.cons (Op1.assign (v := .int .i64 _) rfl ?_)
    refine RunL.nil ?_
    refine run_block ?_
    refine run_loop ?_
    have sta2 := hst.static (L1 := [])
    replace hst := hst.toD (L1 := [])
    refine Run.indS (fun (i : Nat) => [(5, .int .i64 (i : Int))]) [0, 1] (fun (i : Nat) => []) (fun (i : Nat) => i ≤ la.length ∧ ∀ j, j < i → la.getD j (0, 0, 0) = lb.getD j (0, 0, 0)) (fun (i : Nat) => la.length - i) 0 hst ⟨Nat.zero_le _, fun j hj => absurd hj (by omega)⟩ ⟨rfl, trivial⟩ (Keep.refl _ _) ?_
    intro i f w kf3 hst hJ ih4
    replace hst := hst.back sta2
    refine Run.slots (sl := [(0, .slice _ _ _), (1, .slice _ _ _)]) ⟨(kf3.get 0 rfl).trans rfl, (kf3.get 1 rfl).trans rfl, trivial⟩ ?_
    refine run_seq ?_
    refine run_seq ?_
    refine run_region ?_
    refine RunL.cons (Op1.move (v := .int .i64 _) rfl ?_)
    refine RunL.cons (Op1.move (v := .slice _ _ _) rfl ?_)
    refine RunL.cons (Op1.lenSl (rest := []) ty50 rfl ?_)
    refine RunL.cons (Op1.lss rfl rfl ?_)
    refine RunL.nil ?_
    refine run_cond_dec rfl (fun g5 => ?_) (fun g5 => ?_)
    · skip
      refine run_skip ?_
      refine run_seq ?_
      refine run_block ?_
      refine run_seq ?_
      obtain ⟨bs6, rfl⟩ := Res.sl_some (hst.hD _ (.head _)) (by omega)
      obtain ⟨bs7, rfl⟩ := Res.sl_some (hst.hD _ (.tail _ (.head _))) (by omega)
      refine RunD.start [] hst (bs := [0, 0, 3, 7, 0, 0, 48, 112, 255]) (ds := [some 17, some 18, some 19, some 20, some 21, some 22, some 23, some 24, some 25]) ⟨by kernel_rfl, by kernel_rfl, by kernel_rfl⟩ (fun tab8 => ?_)
      refine RunD.op (det _) tab8 1 (fun f' L' w' hc => Op1.move (v := .slice _ _ _) (hc.old (v := .slice _ _ _) rfl rfl rfl) ⟨[], ⟨rfl, rfl⟩, hc.st⟩) ?_
      refine RunD.op (det _) tab8 2 (fun f' L' w' hc => Op1.move (v := .int .i64 _) (hc.old (v := .int .i64 _) rfl rfl rfl) ⟨[], ⟨rfl, rfl⟩, hc.st⟩) ?_
      refine RunD.op (det _) tab8 3 (fun f' L' w' hc => Op1.indexSl ty50 ty56 (hc.det (j := 0) rfl rfl rfl rfl) (hc.det (j := 1) rfl rfl rfl rfl) (by omega) (by omega) ⟨[], ⟨rfl, rfl⟩, hc.st⟩) ?_
      refine RunD.op (det _) tab8 4 (fun f' L' w' hc => Op1.loadA (vs := [.int .i64 _, .int .i64 _, .int .i64 _]) ty56 rfl (hc.det (j := 2) rfl rfl rfl rfl) rfl (Res.sl_cells (k := 3) (hc.st.hD _ (.head _)) _ (flat_seg (g := rowC) (d := (0, 0, 0)) rowC_len _ _ (by omega))) ⟨[], ⟨rfl, rfl⟩, hc.st⟩) ?_
      refine RunD.op (det _) tab8 5 (fun f' L' w' hc => Op1.move (v := .slice _ _ _) (hc.old (v := .slice _ _ _) rfl rfl rfl) ⟨[], ⟨rfl, rfl⟩, hc.st⟩) ?_
      refine RunD.op (det _) tab8 6 (fun f' L' w' hc => Op1.move (v := .int .i64 _) (hc.old (v := .int .i64 _) rfl rfl rfl) ⟨[], ⟨rfl, rfl⟩, hc.st⟩) ?_
      refine RunD.op (det _) tab8 7 (fun f' L' w' hc => Op1.indexSl ty50 ty56 (hc.det (j := 4) rfl rfl rfl rfl) (hc.det (j := 5) rfl rfl rfl rfl) (by omega) (by omega) ⟨[], ⟨rfl, rfl⟩, hc.st⟩) ?_
      refine RunD.op (det _) tab8 8 (fun f' L' w' hc => Op1.loadA (vs := [.int .i64 _, .int .i64 _, .int .i64 _]) ty56 rfl (hc.det (j := 6) rfl rfl rfl rfl) rfl (Res.sl_cells (k := 3) (hc.st.hD _ (.tail _ (.head _))) _ (flat_seg (g := rowC) (d := (0, 0, 0)) rowC_len _ _ (by omega))) ⟨[], ⟨rfl, rfl⟩, hc.st⟩) ?_
      refine RunD.fin followsMixed tab8 hst rfl (fun f9 w R12 hs10 hd11 hr13 hst => ?_)
      obtain ⟨h17_, r0⟩ := hd11 0 17 rfl rfl
      obtain ⟨h18_, r1⟩ := hd11 1 18 rfl rfl
      obtain ⟨h19_, r2⟩ := hd11 2 19 rfl rfl
      obtain ⟨h20_, r3⟩ := hd11 3 20 rfl rfl
      obtain ⟨h21_, r4⟩ := hd11 4 21 rfl rfl
      obtain ⟨h22_, r5⟩ := hd11 5 22 rfl rfl
      obtain ⟨h23_, r6⟩ := hd11 6 23 rfl rfl
      obtain ⟨h24_, r7⟩ := hd11 7 24 rfl rfl
      simp only [show List.range 8 = [0, 1, 2, 3, 4, 5, 6, 7] from rfl, List.flatMap_cons, List.flatMap_nil, List.map_cons, List.map_nil, r0, r1, r2, r3, r4, r5, r6, r7, List.nil_append, List.append_nil, List.cons_append] at hst
      refine RunL.slots (sl := [(0, .slice _ _ _), (1, .slice _ _ _), (5, .int .i64 _), (20, .agg #[.int .i64 _, .int .i64 _, .int .i64 _]), (24, .agg #[.int .i64 _, .int .i64 _, .int .i64 _])]) ⟨(hs10 0 rfl).trans rfl, (hs10 1 rfl).trans rfl, (hs10 5 rfl).trans rfl, h20_, h24_, trivial⟩ ?_
      clear hs10 hd11 hr13 tab8
      refine RunL.cons (Op1.neqA (xs := [.int .i64 _, .int .i64 _, .int .i64 _]) (ys := [.int .i64 _, .int .i64 _, .int .i64 _]) rfl rfl (by kernel_rfl) (EqOk.struct Try.underlying56 (by kernel_rfl) (.cons (by decide) (PartOk.one ty3 rfl rfl) (PartOk.one ty3 rfl rfl) (EqOk.int ty3) (.cons (by decide) (PartOk.one ty3 rfl rfl) (PartOk.one ty3 rfl rfl) (EqOk.int ty3) (.cons (by decide) (PartOk.one ty3 rfl rfl) (PartOk.one ty3 rfl rfl) (EqOk.int ty3) .nil)))) ?_)
      refine RunL.nil ?_
      refine run_cond_split rfl (fun g14 => ?_) (fun g14 => ?_)
      · skip
        refine run_seq ?_
        refine run_region ?_
        refine RunL.cons (Op1.assign (v := .bool _) rfl ?_)
        refine RunL.nil ?_
        refine run_ret1 Try.func43 rfl (RV.tmp (v := .bool _) rfl) ?_
        exact ⟨congrArg Value.bool (decide_eq_false (fun e => by subst e; simp at g14)).symm, hst.pure⟩
      · skip
        refine run_skip ?_
        refine run_inBlock ?_
        refine run_region ?_
        refine RunL.cons (Op1.move (v := .int .i64 _) rfl ?_)
        refine RunL.cons (Op1.addN rfl rfl rfl (wrap_i64 (by omega) (by omega)) ?_)
        refine RunL.cons (Op1.assign (v := .int .i64 _) rfl ?_)
        refine RunL.nil ?_
        refine run_inLoop ?_
        replace hst := hst.toD (L1 := [])
        exact ih4 (i + 1) _ w (by omega) hst (⟨by omega, step_rows hJ.2 (by have hg := g14; simp at hg; exact row_same hg.1 hg.2.1 hg.2.2)⟩) ⟨rfl, rfl, trivial⟩ ⟨(congrArg (Value.int .i64) (by omega)), trivial⟩
    · skip
      refine run_exit (id := 0) rfl ?_
      refine run_seq ?_
      refine run_region ?_
      refine RunL.cons (Op1.assign (v := .bool _) rfl ?_)
      refine RunL.nil ?_
      refine run_ret1 Try.func43 rfl (RV.tmp (v := .bool _) rfl) ?_
      exact ⟨congrArg Value.bool (decide_eq_true (list_ext_getD (0, 0, 0) (by omega) (fun j hj => hJ.2 j (by omega)))).symm, hst.pure⟩

def totN (l : List (Int × Int × Int)) : Nat → Int
  | 0 => 0
  | i + 1 => totN l i + ((l.getD i (0, 0, 0)).2.2 - (l.getD i (0, 0, 0)).2.1)
def RowsBd (l : List (Int × Int × Int)) : Prop := l.length ≤ 1024 ∧ ∀ i, i < l.length → 0 ≤ (l.getD i (0, 0, 0)).2.1 ∧ (l.getD i (0, 0, 0)).2.1 < (l.getD i (0, 0, 0)).2.2 ∧ (l.getD i (0, 0, 0)).2.2 ≤ 1024
theorem rowAt_bd {p : Int → Bool} {a b y : Int} (ha : 0 ≤ a) (hb : b ≤ 1024) : ∀ r ∈ rowAt p a b y, 0 ≤ r.2.1 ∧ r.2.1 < r.2.2 ∧ r.2.2 ≤ 1024 := fun r hr => by
  unfold rowAt at hr
  obtain ⟨l1, l2, l3⟩ := lstN_spec p a (b - a).toNat
  obtain ⟨f1, f2, f3⟩ := fstN_spec p (b - a).toNat a
  split at hr
  · cases hr
  · rename_i hne
    obtain rfl := List.mem_singleton.1 hr
    have := l3 hne
    refine ⟨by dsimp only; omega, ?_, by dsimp only; omega⟩
    dsimp only
    refine Classical.byContradiction fun hlt => ?_
    rw [f2 _ (by omega) (by omega)] at this; cases this
theorem rowsZ_bd {p : Int → Int → Bool} {a b y0 : Int} (ha : 0 ≤ a) (hb : b ≤ 1024) : ∀ k, ∀ r ∈ rowsZ p a b y0 k, 0 ≤ r.2.1 ∧ r.2.1 < r.2.2 ∧ r.2.2 ≤ 1024
  | 0 => fun r hr => by cases hr
  | k + 1 => fun r hr => by
    rcases List.mem_append.1 hr with hr | hr
    · exact rowsZ_bd ha hb k r hr
    · exact rowAt_bd ha hb r hr
theorem covRows_bd (ax ay bx by_ cx cy wd ht : Int) : RowsBd (covRows ax ay bx by_ cx cy wd ht) := by
  by_cases h : 1 ≤ wd ∧ wd ≤ 1024 ∧ 1 ≤ ht ∧ ht ≤ 1024
  · rcases hB : boxV ax ay bx by_ cx cy wd ht with ⟨x0, x1, y0, y1⟩
    have hb := box_bd hB
    rw [rows_of_box h hB]
    refine ⟨Nat.le_trans (rowsZ_len _ _ _ _ _) (by omega), fun i hi => ?_⟩
    have hm : (rowsZ (fun y x => coversZ ax ay bx by_ cx cy x y) x0 x1 y0 (y1 - y0).toNat).getD i (0, 0, 0) ∈ rowsZ (fun y x => coversZ ax ay bx by_ cx cy x y) x0 x1 y0 (y1 - y0).toNat := by
      simp only [List.getD, List.getElem?_eq_getElem hi, Option.getD_some]
      exact List.getElem_mem hi
    exact rowsZ_bd hb.1 hb.2.2.1 _ _ hm
  · rw [rows_no h]; exact ⟨by simp, fun i hi => by simp at hi⟩
theorem totN_bd {l : List (Int × Int × Int)} (h : RowsBd l) : ∀ i, i ≤ l.length → 0 ≤ totN l i ∧ totN l i ≤ 1024 * i
  | 0, _ => by simp [totN]
  | i + 1, hi => by
    have h1 := totN_bd h i (by omega)
    have h2 := h.2 i (by omega)
    simp only [totN]; omega
theorem cov_Rows2 (ax ay az bx by_ bz cx cy cz wd ht : Int) (w : World) {l : List (Int × Int × Int)} (hl : covRows (clampZ ax) (clampZ ay) (clampZ bx) (clampZ by_) (clampZ cx) (clampZ cy) wd ht = l) :
    Ret Try.prog 42 #[.agg #[.int .i32 ax, .int .i32 ay, .int .i32 az, .int .i32 bx, .int .i32 by_, .int .i32 bz, .int .i32 cx, .int .i32 cy, .int .i32 cz], .int .i64 wd, .int .i64 ht] w fun v w' => ∃ ao cap, v = .tuple #[.slice ao l.length cap, .int .i64 (errZ wd ht)] ∧ St w NoM [Res.sl ao l.length cap 56 3 (l.flatMap rowC)] [] w' := by
  subst hl; exact cov_Rows ax ay az bx by_ bz cx cy cz wd ht w
theorem ref_Rows282 (ax ay az bx by_ bz cx cy cz wd ht : Int) (w : World) {l : List (Int × Int × Int)} (hl : covRows (clampZ ax) (clampZ ay) (clampZ bx) (clampZ by_) (clampZ cx) (clampZ cy) wd ht = l) :
    Ret Try.prog 41 #[.agg #[.int .i32 ax, .int .i32 ay, .int .i32 az, .int .i32 bx, .int .i32 by_, .int .i32 bz, .int .i32 cx, .int .i32 cy, .int .i32 cz], .int .i64 wd, .int .i64 ht] w fun v w' => ∃ ao cap, v = .tuple #[.slice ao l.length cap, .int .i64 (errZ wd ht)] ∧ St w NoM [Res.sl ao l.length cap 56 3 (l.flatMap rowC)] [] w' := by
  subst hl; exact ref_Rows28 ax ay az bx by_ bz cx cy cz wd ht w
theorem cov_Count (ax ay az bx by_ bz cx cy cz : Int) (wd ht : Int) (w : World) : Ret Try.prog 44 #[.agg #[.int .i32 ax, .int .i32 ay, .int .i32 az, .int .i32 bx, .int .i32 by_, .int .i32 bz, .int .i32 cx, .int .i32 cy, .int .i32 cz], .int .i64 wd, .int .i64 ht] w (fun v w' => v = .tuple #[.int .i64 (totN (covRows (clampZ ax) (clampZ ay) (clampZ bx) (clampZ by_) (clampZ cx) (clampZ cy) wd ht) (covRows (clampZ ax) (clampZ ay) (clampZ bx) (clampZ by_) (clampZ cx) (clampZ cy) wd ht).length), .int .i64 (errZ wd ht)] ∧ St w NoM [] [] w') := by
  refine Ret.enter (args := [.agg #[.int .i32 ax, .int .i32 ay, .int .i32 az, .int .i32 bx, .int .i32 by_, .int .i32 bz, .int .i32 cx, .int .i32 cy, .int .i32 cz], .int .i64 wd, .int .i64 ht]) Try.func44 rfl rfl rfl ?_
  have hst := St.init w
  obtain ⟨l, hl⟩ : ∃ l, covRows (clampZ ax) (clampZ ay) (clampZ bx) (clampZ by_) (clampZ cx) (clampZ cy) wd ht = l := ⟨_, rfl⟩
  have hbd := covRows_bd (clampZ ax) (clampZ ay) (clampZ bx) (clampZ by_) (clampZ cx) (clampZ cy) wd ht
  rw [hl] at hbd ⊢
  have hbd1 := hbd.1
  refine run_seq ?_
  refine run_region ?_
  refine RunL.cons (Op1.box (v := .agg #[.int .i32 _, .int .i32 _, .int .i32 _, .int .i32 _, .int .i32 _, .int .i32 _, .int .i32 _, .int .i32 _, .int .i32 _]) hst rfl rfl fun w b3 hst => ?_)
  refine RunL.cons (Op1.assign (v := .int .i64 _) rfl ?_)
  refine RunL.cons (Op1.assign (v := .int .i64 _) rfl ?_)
  refine RunL.nil ?_
  refine run_seq ?_
  refine run_region ?_
  refine RunL.cons (Op1.loadA (vs := [.int .i32 _, .int .i32 _, .int .i32 _, .int .i32 _, .int .i32 _, .int .i32 _, .int .i32 _, .int .i32 _, .int .i32 _]) ty27 rfl rfl rfl (cells_of_obj (n := 9) (hst.objL (.head _)) _ rfl) ?_)
  refine RunL.cons (Op1.move (v := .int .i64 _) rfl ?_)
  refine RunL.cons (Op1.move (v := .int .i64 _) rfl ?_)
  refine RunL.cons (Op1.call3 (v1 := .agg #[.int .i32 _, .int .i32 _, .int .i32 _, .int .i32 _, .int .i32 _, .int .i32 _, .int .i32 _, .int .i32 _, .int .i32 _]) (v2 := .int .i64 _) (v3 := .int .i64 _) ent42 rfl rfl rfl rfl ((cov_Rows2 _ _ _ _ _ _ _ _ _ _ _ _ hl).mono fun v w hp => ?_))
  obtain ⟨ao1, cp1, rfl, hp⟩ := hp
  replace hst := hst.call0 hp
  clear hp
  refine RunL.cons (Op1.move (v := .tuple #[.slice _ _ _, .int .i64 _]) rfl ?_)
  refine RunL.cons (Op1.extract (v := .slice _ _ _) rfl rfl ?_)
  refine RunL.cons (Op1.extract (v := .int .i64 _) rfl rfl ?_)
  refine RunL.cons (Op1.assign (v := .slice _ _ _) rfl ?_)
  refine RunL.cons (Op1.assign (v := .int .i64 _) rfl ?_)
  refine RunL.nil ?_
  refine run_seq ?_
  refine run_region ?_
  refine RunL.cons (Op1.assign (v := .int .i64 _) rfl ?_)
  refine RunL.nil ?_
  refine run_seq ?_
  refine run_seq ?_
  refine run_region ?_
  refine RunL.cons (Op1.move (v := .slice _ _ _) rfl ?_)
  refine RunL.cons (Op1.lenSl (rest := []) ty50 rfl ?_)
  refine RunL.cons (Op1.move (v := .int .i64 _) rfl ?_)
  refine RunL.nil ?_
  refine run_block ?_
  refine run_loop ?_
  have sta2 := hst.static (L1 := [])
  replace hst := hst.toD (L1 := [])
  refine Run.indS (fun (i : Nat) => [(10, .int .i64 (totN l i)), (22, .int .i64 (i : Int))]) [9, 20, 21] (fun (i : Nat) => []) (fun (i : Nat) => i ≤ l.length) (fun (i : Nat) => l.length - i) 0 hst (Nat.zero_le _) ⟨rfl, rfl, trivial⟩ (Keep.refl _ _) ?_
  intro i f w kf3 hst hJ ih4
  replace hst := hst.back sta2
  have ht1 := totN_bd hbd i hJ
  refine Run.slots (sl := [(9, .int .i64 _), (20, .slice _ _ _), (21, .int .i64 _)]) ⟨(kf3.get 9 rfl).trans rfl, (kf3.get 20 rfl).trans rfl, (kf3.get 21 rfl).trans rfl, trivial⟩ ?_
  refine run_seq ?_
  refine run_region ?_
  refine RunL.cons (Op1.lss rfl rfl ?_)
  refine RunL.nil ?_
  refine run_seq ?_
  refine run_cond_dec rfl (fun g5 => ?_) (fun g5 => ?_)
  · skip
    have hb2 : 0 ≤ (l.getD ((i : Int)).toNat (0, 0, 0)).2.1 ∧ (l.getD ((i : Int)).toNat (0, 0, 0)).2.1 < (l.getD ((i : Int)).toNat (0, 0, 0)).2.2 ∧ (l.getD ((i : Int)).toNat (0, 0, 0)).2.2 ≤ 1024 := hbd.2 i (by omega)
    refine run_skip ?_
    refine run_seq ?_
    refine run_block ?_
    refine run_seq ?_
    refine run_region ?_
    obtain ⟨bs6, rfl⟩ := Res.sl_some (hst.hL _ (.head _)) (by omega)
    refine RunL.cons (Op1.indexSl ty50 ty56 rfl rfl (by omega) (by omega) ?_)
    refine RunL.cons (Op1.loadA (vs := [.int .i64 _, .int .i64 _, .int .i64 _]) ty56 rfl rfl rfl (Res.sl_cells (k := 3) (hst.hL _ (.head _)) _ (flat_seg (g := rowC) (d := (0, 0, 0)) rowC_len _ _ (by omega))) ?_)
    refine RunL.cons (Op1.alloc hst ty56 fun w b12 hst => ?_)
    refine RunL.cons (Op1.store (v := .agg #[.int .i64 _, .int .i64 _, .int .i64 _]) hst ty56 rfl rfl rfl rfl rfl (.here) (by repeat (first | exact Put.nil | apply Put.put | apply Put.skip)) fun w hst => ?_)
    refine RunL.nil ?_
    refine run_region ?_
    refine RunL.cons (Op1.move (v := .int .i64 _) rfl ?_)
    refine RunL.cons (Op1.fieldAddr fld56_2 rfl ?_)
    refine RunL.cons (Op1.load1 (v := .int .i64 _) ty3 rfl rfl (hst.cellL (.head _) rfl) ?_)
    refine RunL.cons (Op1.fieldAddr fld56_1 rfl ?_)
    refine RunL.cons (Op1.load1 (v := .int .i64 _) ty3 rfl rfl (hst.cellL (.head _) rfl) ?_)
    refine RunL.cons (Op1.subN rfl rfl rfl (wrap_i64 (by omega) (by omega)) ?_)
    refine RunL.cons (Op1.addN rfl rfl rfl (wrap_i64 (by omega) (by omega)) ?_)
    refine RunL.cons (Op1.assign (v := .int .i64 _) rfl ?_)
    refine RunL.nil ?_
    refine run_inBlock ?_
    refine run_region ?_
    refine RunL.cons (Op1.addN rfl rfl rfl (wrap_i64 (by omega) (by omega)) ?_)
    refine RunL.cons (Op1.move (v := .int .i64 _) rfl ?_)
    refine RunL.nil ?_
    refine run_inLoop ?_
    replace hst := hst.pick (.cons (.there (.here)) (.cons (.there (.here)) .nil))
    replace hst := hst.toD (L1 := [])
    exact ih4 (i + 1) _ w (by omega) hst (by omega) ⟨rfl, rfl, rfl, trivial⟩ ⟨rfl, (congrArg (Value.int .i64) (by omega)), trivial⟩
  · skip
    refine run_exit (id := 0) rfl ?_
    refine run_seq ?_
    refine run_region ?_
    refine RunL.cons (Op1.move (v := .int .i64 _) rfl ?_)
    refine RunL.cons (Op1.move (v := .int .i64 _) rfl ?_)
    refine RunL.cons (Op1.assign (v := .int .i64 _) rfl ?_)
    refine RunL.cons (Op1.assign (v := .int .i64 _) rfl ?_)
    refine RunL.nil ?_
    refine run_ret2 Try.func44 rfl (RV.tmp (v := .int .i64 _) rfl) (RV.tmp (v := .int .i64 _) rfl) ?_
    obtain rfl : i = l.length := by omega
    exact ⟨rfl, hst.pure⟩

theorem law28_right  (w : World) : Ret Try.prog 70 #[] w (fun v w' => v = .agg #[.int .i32 0, .int .i32 0, .int .i32 0, .int .i32 64, .int .i32 0, .int .i32 0, .int .i32 0, .int .i32 64, .int .i32 0] ∧ St w NoM [] [] w') := by
  refine Ret.enter (args := []) Try.func70 rfl rfl rfl ?_
  have hst := St.init w
  refine run_seq ?_
  refine run_region ?_
  refine RunL.cons (Op1.alloc hst ty27 fun w b0 hst => ?_)
  refine RunL.nil ?_
  refine run_seq ?_
  refine run_region ?_
  refine RunL.cons (Op1.buildStruct ty25 stf25 .nil ?_)
  refine RunL.cons (Op1.buildStruct ty25 stf25 (.cons rfl (v := .int .i32 _) rfl rfl rfl rfl (by repeat (first | exact Put.nil | apply Put.put | apply Put.skip)) .nil) ?_)
  refine RunL.cons (Op1.buildStruct ty25 stf25 (.cons rfl (v := .int .i32 _) rfl rfl rfl rfl (by repeat (first | exact Put.nil | apply Put.put | apply Put.skip)) .nil) ?_)
  refine RunL.cons (Op1.buildArr ty27 ty25 (.cons rfl (v := .agg #[.int .i32 _, .int .i32 _, .int .i32 _]) rfl rfl rfl rfl (by repeat (first | exact Put.nil | apply Put.put | apply Put.skip)) (.cons rfl (v := .agg #[.int .i32 _, .int .i32 _, .int .i32 _]) rfl rfl rfl rfl (by repeat (first | exact Put.nil | apply Put.put | apply Put.skip)) (.cons rfl (v := .agg #[.int .i32 _, .int .i32 _, .int .i32 _]) rfl rfl rfl rfl (by repeat (first | exact Put.nil | apply Put.put | apply Put.skip)) .nil))) ?_)
  refine RunL.cons (Op1.store (v := .agg #[.int .i32 _, .int .i32 _, .int .i32 _, .int .i32 _, .int .i32 _, .int .i32 _, .int .i32 _, .int .i32 _, .int .i32 _]) hst ty27 rfl rfl rfl rfl rfl (.here) (by repeat (first | exact Put.nil | apply Put.put | apply Put.skip)) fun w hst => ?_)
  refine RunL.nil ?_
  refine run_ret1 Try.func70 rfl (RV.cellA (vs := [.int .i32 _, .int .i32 _, .int .i32 _, .int .i32 _, .int .i32 _, .int .i32 _, .int .i32 _, .int .i32 _, .int .i32 _]) rfl ty27 rfl rfl (cells_of_obj (n := 9) (hst.objL (.head _)) _ rfl)) ?_
  exact ⟨rfl, hst.pure⟩

set_option maxHeartbeats 1000000 in
theorem law28_awake  (w : World) : Ret Try.prog 40 #[] w (fun v w' => v = .bool true ∧ St w NoM [] [] w') := by
  refine Ret.enter (args := []) Try.func40 rfl rfl rfl ?_
  have hst := St.init w
  refine run_seq ?_
  refine run_region ?_
  refine RunL.cons (Op1.assign (v := .bool _) rfl ?_)
  refine RunL.nil ?_
  refine run_seq ?_
  refine run_region ?_
  refine RunL.cons (Op1.call0  ent70 rfl  ((law28_right _).mono fun v w hp => ?_))
  obtain ⟨rfl, hp⟩ := hp
  replace hst := hst.keepc hp
  clear hp
  refine RunL.cons (Op1.call3 (v1 := .agg #[.int .i32 _, .int .i32 _, .int .i32 _, .int .i32 _, .int .i32 _, .int .i32 _, .int .i32 _, .int .i32 _, .int .i32 _]) (v2 := .int .i64 _) (v3 := .int .i64 _) ent42 rfl rfl rfl rfl ((cov_Rows2 _ _ _ _ _ _ _ _ _ _ _ _ rfl).mono fun v w hp => ?_))
  obtain ⟨ao1, cp1, rfl, hp⟩ := hp
  replace hst := hst.call0 hp
  clear hp
  refine RunL.cons (Op1.move (v := .tuple #[.slice _ _ _, .int .i64 _]) rfl ?_)
  refine RunL.cons (Op1.extract (v := .slice _ _ _) rfl rfl ?_)
  refine RunL.cons (Op1.extract (v := .int .i64 _) rfl rfl ?_)
  refine RunL.cons (Op1.assign (v := .slice _ _ _) rfl ?_)
  refine RunL.cons (Op1.assign (v := .int .i64 _) rfl ?_)
  refine RunL.nil ?_
  refine run_seq ?_
  refine run_region ?_
  refine RunL.cons (Op1.call0  ent70 rfl  ((law28_right _).mono fun v w hp => ?_))
  obtain ⟨rfl, hp⟩ := hp
  replace hst := hst.keepc hp
  clear hp
  refine RunL.cons (Op1.call3 (v1 := .agg #[.int .i32 _, .int .i32 _, .int .i32 _, .int .i32 _, .int .i32 _, .int .i32 _, .int .i32 _, .int .i32 _, .int .i32 _]) (v2 := .int .i64 _) (v3 := .int .i64 _) ent44 rfl rfl rfl rfl ((cov_Count _ _ _ _ _ _ _ _ _ _ _ _).mono fun v w hp => ?_))
  obtain ⟨rfl, hp⟩ := hp
  replace hst := hst.keepc hp
  clear hp
  refine RunL.cons (Op1.move (v := .tuple #[.int .i64 _, .int .i64 _]) rfl ?_)
  refine RunL.cons (Op1.extract (v := .int .i64 _) rfl rfl ?_)
  refine RunL.cons (Op1.extract (v := .int .i64 _) rfl rfl ?_)
  refine RunL.cons (Op1.assign (v := .int .i64 _) rfl ?_)
  refine RunL.cons (Op1.assign (v := .int .i64 _) rfl ?_)
  refine RunL.nil ?_
  refine run_seq ?_
  refine run_region ?_
  refine RunL.cons (Op1.call0  ent70 rfl  ((law28_right _).mono fun v w hp => ?_))
  obtain ⟨rfl, hp⟩ := hp
  replace hst := hst.keepc hp
  clear hp
  refine RunL.cons (Op1.call3 (v1 := .agg #[.int .i32 _, .int .i32 _, .int .i32 _, .int .i32 _, .int .i32 _, .int .i32 _, .int .i32 _, .int .i32 _, .int .i32 _]) (v2 := .int .i64 _) (v3 := .int .i64 _) ent39 rfl rfl rfl rfl ((cov_Box _ _ _ _ _ _ _ _ _ _ _ _).mono fun v w hp => ?_))
  obtain ⟨rfl, hp⟩ := hp
  replace hst := hst.keepc hp
  clear hp
  refine RunL.cons (Op1.move (v := .tuple #[.agg #[.int .i64 _, .int .i64 _], .agg #[.int .i64 _, .int .i64 _], .bool _]) rfl ?_)
  refine RunL.cons (Op1.extract (v := .agg #[.int .i64 _, .int .i64 _]) rfl rfl ?_)
  refine RunL.cons (Op1.extract (v := .agg #[.int .i64 _, .int .i64 _]) rfl rfl ?_)
  refine RunL.cons (Op1.extract (v := .bool _) rfl rfl ?_)
  refine RunL.cons (Op1.alloc hst ty47 fun w b5 hst => ?_)
  refine RunL.cons (Op1.alloc hst ty47 fun w b6 hst => ?_)
  refine RunL.cons (Op1.store (v := .agg #[.int .i64 _, .int .i64 _]) hst ty47 rfl rfl rfl rfl rfl (.there (.here)) (by repeat (first | exact Put.nil | apply Put.put | apply Put.skip)) fun w hst => ?_)
  refine RunL.cons (Op1.store (v := .agg #[.int .i64 _, .int .i64 _]) hst ty47 rfl rfl rfl rfl rfl (.here) (by repeat (first | exact Put.nil | apply Put.put | apply Put.skip)) fun w hst => ?_)
  refine RunL.cons (Op1.assign (v := .bool _) rfl ?_)
  refine RunL.nil ?_
  refine run_seq ?_
  refine run_region ?_
  refine RunL.cons (Op1.move (v := .int .i64 _) rfl ?_)
  refine RunL.cons (Op1.eql rfl rfl ?_)
  refine RunL.cons (Op1.move (v := .bool _) rfl ?_)
  refine RunL.splitD (d := 26) rfl (fun g2 => ?_) (fun g2 => ?_)
  · skip
    refine RunL.take (t := 26) rfl (congrArg Value.bool (decide_eq_true g2)) (Op1.move (v := .slice _ _ _) rfl ?_)
    refine RunL.take (t := 26) rfl (congrArg Value.bool (decide_eq_true g2)) (Op1.lenSl (rest := []) ty50 rfl ?_)
    refine RunL.take (t := 26) rfl (congrArg Value.bool (decide_eq_true g2)) (Op1.eql rfl rfl ?_)
    refine RunL.cons (Op1.pickT (u := .bool _) (congrArg Value.bool (decide_eq_true g2)) rfl ?_)
    refine RunL.cons (Op1.move (v := .bool _) rfl ?_)
    refine RunL.splitD (d := 31) rfl (fun g3 => ?_) (fun g3 => ?_)
    · skip
      refine RunL.take (t := 31) rfl (congrArg Value.bool (decide_eq_true g3)) (Op1.move (v := .slice _ _ _) rfl ?_)
      obtain ⟨bs4, rfl⟩ := Res.sl_some (hst.hL _ (.tail _ (.tail _ (.head _)))) (by omega)
      refine RunL.take (t := 31) rfl (congrArg Value.bool (decide_eq_true g3)) (Op1.indexSl ty50 ty56 rfl rfl (by omega) (by omega) ?_)
      refine RunL.take (t := 31) rfl (congrArg Value.bool (decide_eq_true g3)) (Op1.loadA (vs := [.int .i64 _, .int .i64 _, .int .i64 _]) ty56 rfl rfl rfl (Res.sl_cells (k := 3) (hst.hL _ (.tail _ (.tail _ (.head _)))) _ (flat_seg (g := rowC) (d := (0, 0, 0)) rowC_len _ _ (by omega))) ?_)
      refine RunL.take (t := 31) rfl (congrArg Value.bool (decide_eq_true g3)) (Op1.buildStruct ty56 stf56 (.cons rfl (v := .int .i64 _) rfl rfl rfl rfl (by repeat (first | exact Put.nil | apply Put.put | apply Put.skip)) .nil) ?_)
      refine RunL.take (t := 31) rfl (congrArg Value.bool (decide_eq_true g3)) (Op1.eqlA (xs := [.int .i64 _, .int .i64 _, .int .i64 _]) (ys := [.int .i64 _, .int .i64 _, .int .i64 _]) rfl rfl (by kernel_rfl) (EqOk.struct Try.underlying56 (by kernel_rfl) (.cons (by decide) (PartOk.one ty3 rfl rfl) (PartOk.one ty3 rfl rfl) (EqOk.int ty3) (.cons (by decide) (PartOk.one ty3 rfl rfl) (PartOk.one ty3 rfl rfl) (EqOk.int ty3) (.cons (by decide) (PartOk.one ty3 rfl rfl) (PartOk.one ty3 rfl rfl) (EqOk.int ty3) .nil)))) ?_)
      refine RunL.cons (Op1.pickT (u := .bool _) (congrArg Value.bool (decide_eq_true g3)) rfl ?_)
      refine RunL.cons (Op1.move (v := .bool _) rfl ?_)
      refine RunL.split (d := 38) rfl (fun g5 => ?_) (fun g5 => ?_)
      · skip
        refine RunL.take (t := 38) rfl (congrArg Value.bool g5) (Op1.move (v := .int .i64 _) rfl ?_)
        refine RunL.take (t := 38) rfl (congrArg Value.bool g5) (Op1.eql rfl rfl ?_)
        refine RunL.cons (Op1.pickT (u := .bool _) (congrArg Value.bool g5) rfl ?_)
        refine RunL.cons (Op1.move (v := .bool _) rfl ?_)
        refine RunL.splitD (d := 42) rfl (fun g6 => ?_) (fun g6 => ?_)
        · skip
          refine RunL.take (t := 42) rfl (congrArg Value.bool (decide_eq_true g6)) (Op1.move (v := .int .i64 _) rfl ?_)
          refine RunL.take (t := 42) rfl (congrArg Value.bool (decide_eq_true g6)) (Op1.eql rfl rfl ?_)
          refine RunL.cons (Op1.pickT (u := .bool _) (congrArg Value.bool (decide_eq_true g6)) rfl ?_)
          refine RunL.cons (Op1.move (v := .bool _) rfl ?_)
          refine RunL.splitD (d := 46) rfl (fun g7 => ?_) (fun g7 => ?_)
          · skip
            refine RunL.take (t := 46) rfl (congrArg Value.bool (decide_eq_true g7)) (Op1.move (v := .bool _) rfl ?_)
            refine RunL.cons (Op1.pickT (u := .bool _) (congrArg Value.bool (decide_eq_true g7)) rfl ?_)
            refine RunL.cons (Op1.move (v := .bool _) rfl ?_)
            refine RunL.split (d := 49) rfl (fun g8 => ?_) (fun g8 => ?_)
            · skip
              refine RunL.take (t := 49) rfl (congrArg Value.bool g8) (Op1.loadA (vs := [.int .i64 _, .int .i64 _]) ty47 rfl rfl rfl (cells_of_obj (n := 2) (hst.objL (.tail _ (.head _))) _ rfl) ?_)
              refine RunL.take (t := 49) rfl (congrArg Value.bool g8) (Op1.buildStruct ty47 stf47 (.cons rfl (v := .int .i64 _) rfl rfl rfl rfl (by repeat (first | exact Put.nil | apply Put.put | apply Put.skip)) .nil) ?_)
              refine RunL.take (t := 49) rfl (congrArg Value.bool g8) (Op1.eqlA (xs := [.int .i64 _, .int .i64 _]) (ys := [.int .i64 _, .int .i64 _]) rfl rfl (by kernel_rfl) (EqOk.struct Try.underlying47 (by kernel_rfl) (.cons (by decide) (PartOk.one ty3 rfl rfl) (PartOk.one ty3 rfl rfl) (EqOk.int ty3) (.cons (by decide) (PartOk.one ty3 rfl rfl) (PartOk.one ty3 rfl rfl) (EqOk.int ty3) .nil))) ?_)
              refine RunL.cons (Op1.pickT (u := .bool _) (congrArg Value.bool g8) rfl ?_)
              refine RunL.cons (Op1.move (v := .bool _) rfl ?_)
              refine RunL.split (d := 54) rfl (fun g9 => ?_) (fun g9 => ?_)
              · skip
                refine RunL.take (t := 54) rfl (congrArg Value.bool g9) (Op1.loadA (vs := [.int .i64 _, .int .i64 _]) ty47 rfl rfl rfl (cells_of_obj (n := 2) (hst.objL (.head _)) _ rfl) ?_)
                refine RunL.take (t := 54) rfl (congrArg Value.bool g9) (Op1.buildStruct ty47 stf47 (.cons rfl (v := .int .i64 _) rfl rfl rfl rfl (by repeat (first | exact Put.nil | apply Put.put | apply Put.skip)) .nil) ?_)
                refine RunL.take (t := 54) rfl (congrArg Value.bool g9) (Op1.eqlA (xs := [.int .i64 _, .int .i64 _]) (ys := [.int .i64 _, .int .i64 _]) rfl rfl (by kernel_rfl) (EqOk.struct Try.underlying47 (by kernel_rfl) (.cons (by decide) (PartOk.one ty3 rfl rfl) (PartOk.one ty3 rfl rfl) (EqOk.int ty3) (.cons (by decide) (PartOk.one ty3 rfl rfl) (PartOk.one ty3 rfl rfl) (EqOk.int ty3) .nil))) ?_)
                refine RunL.cons (Op1.pickT (u := .bool _) (congrArg Value.bool g9) rfl ?_)
                refine RunL.cons (Op1.assign (v := .bool _) rfl ?_)
                refine RunL.nil ?_
                refine run_ret1 Try.func40 rfl (RV.tmp (v := .bool _) rfl) ?_
                exact ⟨congrArg Value.bool (by decide +kernel), hst.pure⟩
              · skip
                exfalso
                first | exact g9 (by decide +kernel) | exact absurd g9 (by decide +kernel)
            · skip
              exfalso
              first | exact g8 (by decide +kernel) | exact absurd g8 (by decide +kernel)
          · skip
            exfalso
            first | exact g7 (by decide +kernel) | exact absurd g7 (by decide +kernel)
        · skip
          exfalso
          first | exact g6 (by decide +kernel) | exact absurd g6 (by decide +kernel)
      · skip
        exfalso
        first | exact g5 (by decide +kernel) | exact absurd g5 (by decide +kernel)
    · skip
      exfalso
      first | exact g3 (by decide +kernel) | exact absurd g3 (by decide +kernel)
  · skip
    exfalso
    first | exact g2 (by decide +kernel) | exact absurd g2 (by decide +kernel)

theorem law_CoverBox (ax ay az bx by_ bz cx cy cz : Int) (wd ht : Int) (w : World) : Ret Try.prog 12 #[.agg #[.int .i32 ax, .int .i32 ay, .int .i32 az, .int .i32 bx, .int .i32 by_, .int .i32 bz, .int .i32 cx, .int .i32 cy, .int .i32 cz], .int .i64 wd, .int .i64 ht] w (fun v w' => v = .bool true ∧ St w NoM [] [] w') := by
  refine Ret.enter (args := [.agg #[.int .i32 ax, .int .i32 ay, .int .i32 az, .int .i32 bx, .int .i32 by_, .int .i32 bz, .int .i32 cx, .int .i32 cy, .int .i32 cz], .int .i64 wd, .int .i64 ht]) Try.func12 rfl rfl rfl ?_
  have hst := St.init w
  refine run_seq ?_
  refine run_region ?_
  refine RunL.cons (Op1.box (v := .agg #[.int .i32 _, .int .i32 _, .int .i32 _, .int .i32 _, .int .i32 _, .int .i32 _, .int .i32 _, .int .i32 _, .int .i32 _]) hst rfl rfl fun w b3 hst => ?_)
  refine RunL.cons (Op1.assign (v := .bool _) rfl ?_)
  refine RunL.nil ?_
  refine run_seq ?_
  refine run_region ?_
  refine RunL.cons (Op1.loadA (vs := [.int .i32 _, .int .i32 _, .int .i32 _, .int .i32 _, .int .i32 _, .int .i32 _, .int .i32 _, .int .i32 _, .int .i32 _]) ty27 rfl rfl rfl (cells_of_obj (n := 9) (hst.objL (.head _)) _ rfl) ?_)
  refine RunL.cons (Op1.move (v := .int .i64 _) rfl ?_)
  refine RunL.cons (Op1.move (v := .int .i64 _) rfl ?_)
  refine RunL.cons (Op1.call3 (v1 := .agg #[.int .i32 _, .int .i32 _, .int .i32 _, .int .i32 _, .int .i32 _, .int .i32 _, .int .i32 _, .int .i32 _, .int .i32 _]) (v2 := .int .i64 _) (v3 := .int .i64 _) ent38 rfl rfl rfl rfl ((ref_Box28 _ _ _ _ _ _ _ _ _ _ _ _).mono fun v w hp => ?_))
  obtain ⟨rfl, hp⟩ := hp
  replace hst := hst.keepc hp
  clear hp
  refine RunL.cons (Op1.move (v := .tuple #[.agg #[.int .i64 _, .int .i64 _], .agg #[.int .i64 _, .int .i64 _], .bool _]) rfl ?_)
  refine RunL.cons (Op1.extract (v := .agg #[.int .i64 _, .int .i64 _]) rfl rfl ?_)
  refine RunL.cons (Op1.extract (v := .agg #[.int .i64 _, .int .i64 _]) rfl rfl ?_)
  refine RunL.cons (Op1.extract (v := .bool _) rfl rfl ?_)
  refine RunL.cons (Op1.alloc hst ty47 fun w b7 hst => ?_)
  refine RunL.cons (Op1.alloc hst ty47 fun w b8 hst => ?_)
  refine RunL.cons (Op1.store (v := .agg #[.int .i64 _, .int .i64 _]) hst ty47 rfl rfl rfl rfl rfl (.there (.here)) (by repeat (first | exact Put.nil | apply Put.put | apply Put.skip)) fun w hst => ?_)
  refine RunL.cons (Op1.store (v := .agg #[.int .i64 _, .int .i64 _]) hst ty47 rfl rfl rfl rfl rfl (.here) (by repeat (first | exact Put.nil | apply Put.put | apply Put.skip)) fun w hst => ?_)
  refine RunL.cons (Op1.assign (v := .bool _) rfl ?_)
  refine RunL.nil ?_
  refine run_seq ?_
  refine run_region ?_
  refine RunL.cons (Op1.loadA (vs := [.int .i32 _, .int .i32 _, .int .i32 _, .int .i32 _, .int .i32 _, .int .i32 _, .int .i32 _, .int .i32 _, .int .i32 _]) ty27 rfl rfl rfl (cells_of_obj (n := 9) (hst.objL (.tail _ (.tail _ (.head _)))) _ rfl) ?_)
  refine RunL.cons (Op1.move (v := .int .i64 _) rfl ?_)
  refine RunL.cons (Op1.move (v := .int .i64 _) rfl ?_)
  refine RunL.cons (Op1.call3 (v1 := .agg #[.int .i32 _, .int .i32 _, .int .i32 _, .int .i32 _, .int .i32 _, .int .i32 _, .int .i32 _, .int .i32 _, .int .i32 _]) (v2 := .int .i64 _) (v3 := .int .i64 _) ent39 rfl rfl rfl rfl ((cov_Box _ _ _ _ _ _ _ _ _ _ _ _).mono fun v w hp => ?_))
  obtain ⟨rfl, hp⟩ := hp
  replace hst := hst.keepc hp
  clear hp
  refine RunL.cons (Op1.move (v := .tuple #[.agg #[.int .i64 _, .int .i64 _], .agg #[.int .i64 _, .int .i64 _], .bool _]) rfl ?_)
  refine RunL.cons (Op1.extract (v := .agg #[.int .i64 _, .int .i64 _]) rfl rfl ?_)
  refine RunL.cons (Op1.extract (v := .agg #[.int .i64 _, .int .i64 _]) rfl rfl ?_)
  refine RunL.cons (Op1.extract (v := .bool _) rfl rfl ?_)
  refine RunL.cons (Op1.alloc hst ty47 fun w b10 hst => ?_)
  refine RunL.cons (Op1.alloc hst ty47 fun w b11 hst => ?_)
  refine RunL.cons (Op1.store (v := .agg #[.int .i64 _, .int .i64 _]) hst ty47 rfl rfl rfl rfl rfl (.there (.here)) (by repeat (first | exact Put.nil | apply Put.put | apply Put.skip)) fun w hst => ?_)
  refine RunL.cons (Op1.store (v := .agg #[.int .i64 _, .int .i64 _]) hst ty47 rfl rfl rfl rfl rfl (.here) (by repeat (first | exact Put.nil | apply Put.put | apply Put.skip)) fun w hst => ?_)
  refine RunL.cons (Op1.assign (v := .bool _) rfl ?_)
  refine RunL.nil ?_
  refine run_seq ?_
  refine run_region ?_
  refine RunL.cons (Op1.loadA (vs := [.int .i64 _, .int .i64 _]) ty47 rfl rfl rfl (cells_of_obj (n := 2) (hst.objL (.tail _ (.head _))) _ rfl) ?_)
  refine RunL.cons (Op1.loadA (vs := [.int .i64 _, .int .i64 _]) ty47 rfl rfl rfl (cells_of_obj (n := 2) (hst.objL (.tail _ (.tail _ (.tail _ (.head _))))) _ rfl) ?_)
  refine RunL.cons (Op1.eqlA (xs := [.int .i64 _, .int .i64 _]) (ys := [.int .i64 _, .int .i64 _]) rfl rfl (by kernel_rfl) (EqOk.struct Try.underlying47 (by kernel_rfl) (.cons (by decide) (PartOk.one ty3 rfl rfl) (PartOk.one ty3 rfl rfl) (EqOk.int ty3) (.cons (by decide) (PartOk.one ty3 rfl rfl) (PartOk.one ty3 rfl rfl) (EqOk.int ty3) .nil))) ?_)
  refine RunL.cons (Op1.move (v := .bool _) rfl ?_)
  refine RunL.split (d := 32) rfl (fun g1 => ?_) (fun g1 => ?_)
  · skip
    refine RunL.take (t := 32) rfl (congrArg Value.bool g1) (Op1.loadA (vs := [.int .i64 _, .int .i64 _]) ty47 rfl rfl rfl (cells_of_obj (n := 2) (hst.objL (.head _)) _ rfl) ?_)
    refine RunL.take (t := 32) rfl (congrArg Value.bool g1) (Op1.loadA (vs := [.int .i64 _, .int .i64 _]) ty47 rfl rfl rfl (cells_of_obj (n := 2) (hst.objL (.tail _ (.tail _ (.head _)))) _ rfl) ?_)
    refine RunL.take (t := 32) rfl (congrArg Value.bool g1) (Op1.eqlA (xs := [.int .i64 _, .int .i64 _]) (ys := [.int .i64 _, .int .i64 _]) rfl rfl (by kernel_rfl) (EqOk.struct Try.underlying47 (by kernel_rfl) (.cons (by decide) (PartOk.one ty3 rfl rfl) (PartOk.one ty3 rfl rfl) (EqOk.int ty3) (.cons (by decide) (PartOk.one ty3 rfl rfl) (PartOk.one ty3 rfl rfl) (EqOk.int ty3) .nil))) ?_)
    refine RunL.cons (Op1.pickT (u := .bool _) (congrArg Value.bool g1) rfl ?_)
    refine RunL.cons (Op1.move (v := .bool _) rfl ?_)
    refine RunL.split (d := 37) rfl (fun g2 => ?_) (fun g2 => ?_)
    · skip
      refine RunL.take (t := 37) rfl (congrArg Value.bool g2) (Op1.move (v := .bool _) rfl ?_)
      refine RunL.take (t := 37) rfl (congrArg Value.bool g2) (Op1.move (v := .bool _) rfl ?_)
      refine RunL.take (t := 37) rfl (congrArg Value.bool g2) (Op1.eqlB ty4 rfl rfl ?_)
      refine RunL.cons (Op1.pickT (u := .bool _) (congrArg Value.bool g2) rfl ?_)
      refine RunL.cons (Op1.move (v := .bool _) rfl ?_)
      refine RunL.split (d := 42) rfl (fun g3 => ?_) (fun g3 => ?_)
      · skip
        refine RunL.take (t := 42) rfl (congrArg Value.bool g3) (Op1.call0  ent40 rfl  ((law28_awake _).mono fun v w hp => ?_))
        obtain ⟨rfl, hp⟩ := hp
        replace hst := hst.keepc hp
        clear hp
        refine RunL.cons (Op1.pickT (u := .bool _) (congrArg Value.bool g3) rfl ?_)
        refine RunL.cons (Op1.assign (v := .bool _) rfl ?_)
        refine RunL.nil ?_
        refine run_ret1 Try.func12 rfl (RV.tmp (v := .bool _) rfl) ?_
        exact ⟨rfl, hst.pure⟩
      · skip
        exfalso
        simp at g3
    · skip
      exfalso
      simp at g2
  · skip
    exfalso
    simp at g1

end Go.SK
