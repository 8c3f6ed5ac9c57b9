/-
  Walks of functions, and of the laws over them.
-/
import Derived.Test.YtnbapjkldjhjoaaSkFacts1
import Derived.Test.YtnbapjkldjhjoaaSkFacts2
import Derived.Test.YtnbapjkldjhjoaaSkCoverU
set_option linter.unusedVariables false
set_option linter.unusedSimpArgs false
namespace Go.SK
open Go Go.Proofs
open Go.RowKit
theorem cov_Pixels (ax ay az bx by_ bz cx cy cz : Int) (wd ht : Int) (w : World) : Ret Try.prog 49 #[.agg #[.int .i32 ax, .int .i32 ay, .int .i32 az, .int .i32 bx, .int .i32 by_, .int .i32 bz, .int .i32 cx, .int .i32 cy, .int .i32 cz], .int .i64 wd, .int .i64 ht] w (fun v w' => ∃ bt bw bh, v = .func (.func 72) #[] #[.pointer (some ⟨bt, 0, none⟩), .pointer (some ⟨bw, 0, none⟩), .pointer (some ⟨bh, 0, none⟩)] ∧ St w NoM [Res.row bh 3 [.int .i64 ht], Res.row bw 3 [.int .i64 wd], Res.row bt 27 [.int .i32 ax, .int .i32 ay, .int .i32 az, .int .i32 bx, .int .i32 by_, .int .i32 bz, .int .i32 cx, .int .i32 cy, .int .i32 cz]] [] w') := by
  refine Ret.enter (args := [.agg #[.int .i32 ax, .int .i32 ay, .int .i32 az, .int .i32 bx, .int .i32 by_, .int .i32 bz, .int .i32 cx, .int .i32 cy, .int .i32 cz], .int .i64 wd, .int .i64 ht]) Try.func49 rfl rfl rfl ?_
  have hst := St.init w
  refine run_seq ?_
  refine run_region ?_
  refine RunL.cons (Op1.box (v := .agg #[.int .i32 _, .int .i32 _, .int .i32 _, .int .i32 _, .int .i32 _, .int .i32 _, .int .i32 _, .int .i32 _, .int .i32 _]) hst rfl rfl fun w b3 hst => ?_)
  refine RunL.cons (Op1.box (v := .int .i64 _) hst rfl rfl fun w b4 hst => ?_)
  refine RunL.cons (Op1.box (v := .int .i64 _) hst rfl rfl fun w b5 hst => ?_)
  refine RunL.cons (Op1.assign (v := _) rfl ?_)
  refine RunL.nil ?_
  refine run_seq ?_
  refine run_region ?_
  refine RunL.cons (Op1.makeFunc ?_)
  refine RunL.cons (Op1.assign (v := .func _ _ _) rfl ?_)
  refine RunL.nil ?_
  refine run_ret1 Try.func49 rfl (RV.tmp (v := .func _ _ _) rfl) ?_
  exact ⟨_, _, _, rfl, hst⟩

theorem totN_mono {l : List (Int × Int × Int)} (h : RowsBd l) {i : Nat} : ∀ k, i + k ≤ l.length → totN l i ≤ totN l (i + k)
  | 0, _ => Int.le_refl _
  | k + 1, hk => by
    have h1 := totN_mono h (i := i) k (by omega)
    have h2 := h.2 (i + k) (by omega)
    rw [show i + (k + 1) = i + k + 1 by omega, totN]; omega
theorem pix_lt {l : List (Int × Int × Int)} (h : RowsBd l) {i : Nat} (hi : i < l.length) {x : Int} (h1 : (l.getD i (0, 0, 0)).2.1 ≤ x) (h2 : x < (l.getD i (0, 0, 0)).2.2) : (totN l i + (x - (l.getD i (0, 0, 0)).2.1)).toNat < (totN l l.length).toNat := by
  have h3 := totN_mono h (i := i + 1) (l.length - (i + 1)) (by omega)
  rw [show i + 1 + (l.length - (i + 1)) = l.length by omega, totN] at h3
  have h4 := totN_bd h i (by omega)
  omega
theorem pixels_iter (ax ay az bx by_ bz cx cy cz : Int) (wd ht : Int) (l : List (Int × Int × Int)) (hl : covRows (clampZ ax) (clampZ ay) (clampZ bx) (clampZ by_) (clampZ cx) (clampZ cy) wd ht = l) (bt bw bh : Nat) (w : World) (hbt : (Res.row bt 27 [.int .i32 ax, .int .i32 ay, .int .i32 az, .int .i32 bx, .int .i32 by_, .int .i32 bz, .int .i32 cx, .int .i32 cy, .int .i32 cz]).holds w) (hbw : (Res.row bw 3 [.int .i64 wd]).holds w) (hbh : (Res.row bh 3 [.int .i64 ht]).holds w) : IterOk Try.prog 72 [.pointer (some ⟨bt, 0, none⟩), .pointer (some ⟨bw, 0, none⟩), .pointer (some ⟨bh, 0, none⟩)] (totN l l.length).toNat (fun j => [.int .i64 (pixAt l j).1, .int .i64 (pixAt l j).2]) (fun b => b = bt ∨ b = bw ∨ b = bh) w := by
  intro yv R S hR hFD hy
  have hbd := covRows_bd (clampZ ax) (clampZ ay) (clampZ bx) (clampZ by_) (clampZ cx) (clampZ cy) wd ht
  rw [hl] at hbd
  have hbd1 := hbd.1
  have hlt : ∀ (i : Nat) (x : Int), i < l.length → (l.getD i (0, 0, 0)).2.1 ≤ x → x < (l.getD i (0, 0, 0)).2.2 → (totN l i + (x - (l.getD i (0, 0, 0)).2.1)).toNat < (totN l l.length).toNat := fun i x h1 h2 h3 => pix_lt hbd h1 h2 h3
  have hyx : ∀ (i : Nat) (x : Int), i < l.length → (l.getD i (0, 0, 0)).2.1 ≤ x → x < (l.getD i (0, 0, 0)).2.2 → ∀ w1, St w (R 0).foot [R (totN l i + (x - (l.getD i (0, 0, 0)).2.1)).toNat] [] w1 → CallV Try.prog yv [.int .i64 x, .int .i64 (l.getD i (0, 0, 0)).1] w1 fun v w2 => (v = .bool true ∧ St w1 (R (totN l i + (x - (l.getD i (0, 0, 0)).2.1)).toNat).foot [R ((totN l i + (x - (l.getD i (0, 0, 0)).2.1)).toNat + 1)] [] w2) ∨ (v = .bool false ∧ St w1 (R (totN l i + (x - (l.getD i (0, 0, 0)).2.1)).toNat).foot [S (totN l i + (x - (l.getD i (0, 0, 0)).2.1)).toNat] [] w2) := fun i x h1 h2 h3 w1 hw1 => by
    have t := hy _ (hlt i x h1 h2 h3) w1 hw1
    dsimp only at t
    rwa [pixAt_row hbd h1 h2 h3] at t
  refine Ret.enter (args := [yv, .pointer (some ⟨bt, 0, none⟩), .pointer (some ⟨bw, 0, none⟩), .pointer (some ⟨bh, 0, none⟩)]) Try.func72 rfl rfl rfl ?_
  have hst : St w (R 0).foot [R 0] [Res.row bt 27 [.int .i32 ax, .int .i32 ay, .int .i32 az, .int .i32 bx, .int .i32 by_, .int .i32 bz, .int .i32 cx, .int .i32 cy, .int .i32 cz], Res.row bw 3 [.int .i64 wd], Res.row bh 3 [.int .i64 ht]] w := St.enter1 hR (fun d hd => by cases hd with | head => exact hbt | tail _ hd => cases hd with | head => exact hbw | tail _ hd => cases hd with | head => exact hbh | tail _ h => cases h) (fun d hd => by cases hd with | head => exact fun b hb hb2 => hFD b hb (.inl hb2) | tail _ hd => cases hd with | head => exact fun b hb hb2 => hFD b hb (.inr (.inl hb2)) | tail _ hd => cases hd with | head => exact fun b hb hb2 => hFD b hb (.inr (.inr hb2)) | tail _ h => cases h)
  refine run_seq ?_
  refine run_region ?_
  refine RunL.cons (Op1.loadA (vs := [.int .i32 _, .int .i32 _, .int .i32 _, .int .i32 _, .int .i32 _, .int .i32 _, .int .i32 _, .int .i32 _, .int .i32 _]) ty27 rfl rfl rfl (cells_of_obj (n := 9) (hst.objD (.head _)) _ rfl) ?_)
  refine RunL.cons (Op1.load1 (v := .int .i64 _) ty3 rfl rfl (hst.cellD (.tail _ (.head _)) rfl) ?_)
  refine RunL.cons (Op1.load1 (v := .int .i64 _) ty3 rfl rfl (hst.cellD (.tail _ (.tail _ (.head _))) rfl) ?_)
  refine RunL.cons (Op1.call3 (v1 := .agg #[.int .i32 _, .int .i32 _, .int .i32 _, .int .i32 _, .int .i32 _, .int .i32 _, .int .i32 _, .int .i32 _, .int .i32 _]) (v2 := .int .i64 _) (v3 := .int .i64 _) ent42 rfl rfl rfl rfl ((cov_Rows2 _ _ _ _ _ _ _ _ _ _ _ _ hl).mono fun v w hp => ?_))
  obtain ⟨ao1, cp1, rfl, hp⟩ := hp
  replace hst := hst.call0 hp
  clear hp
  refine RunL.cons (Op1.move (v := .tuple #[.slice _ _ _, .int .i64 _]) rfl ?_)
  refine RunL.cons (Op1.extract (v := .slice _ _ _) rfl rfl ?_)
  refine RunL.cons (Op1.extract (v := .int .i64 _) rfl rfl ?_)
  refine RunL.cons (Op1.assign (v := .slice _ _ _) rfl ?_)
  refine RunL.cons (Op1.assign (v := .int .i64 _) rfl ?_)
  refine RunL.nil ?_
  refine run_seq ?_
  refine run_region ?_
  refine RunL.cons (Op1.move (v := .slice _ _ _) rfl ?_)
  refine RunL.cons (Op1.lenSl (rest := []) ty50 rfl ?_)
  refine RunL.cons (Op1.move (v := .int .i64 _) rfl ?_)
  refine RunL.nil ?_
  refine run_block ?_
  refine run_loop ?_
  replace hst := hst.pick (.cons (.there (.here)) (.cons (.here) .nil))
  have sta2 := hst.static (L1 := [_])
  replace hst := hst.toD (L1 := [_])
  refine Run.indS (fun (i : Nat) => [(19, .int .i64 (i : Int))]) [0, 17, 18] (fun (i : Nat) => [R (totN l i).toNat]) (fun (i : Nat) => i ≤ l.length) (fun (i : Nat) => l.length - i) 0 hst (Nat.zero_le _) ⟨rfl, trivial⟩ (Keep.refl _ _) ?_
  intro i f w kf3 hst hJ ih4
  replace hst := hst.back sta2
  refine Run.slots (sl := [(0, _), (17, .slice _ _ _), (18, .int .i64 _)]) ⟨(kf3.get 0 rfl).trans rfl, (kf3.get 17 rfl).trans rfl, (kf3.get 18 rfl).trans rfl, trivial⟩ ?_
  refine run_seq ?_
  refine run_region ?_
  refine RunL.cons (Op1.lss rfl rfl ?_)
  refine RunL.nil ?_
  refine run_seq ?_
  refine run_cond_dec rfl (fun g5 => ?_) (fun g5 => ?_)
  · skip
    have hiv : i < l.length := by omega
    have hbb : 0 ≤ (l.getD i (0, 0, 0)).2.1 ∧ (l.getD i (0, 0, 0)).2.1 < (l.getD i (0, 0, 0)).2.2 ∧ (l.getD i (0, 0, 0)).2.2 ≤ 1024 := hbd.2 i hiv
    have ht1 := totN_bd hbd i (by omega)
    have hq : (l.getD ((i : Int)).toNat (0, 0, 0)).2.2 = (l.getD i (0, 0, 0)).2.2 ∧ (l.getD ((i : Int)).toNat (0, 0, 0)).2.1 = (l.getD i (0, 0, 0)).2.1 := ⟨rfl, rfl⟩
    refine run_skip ?_
    refine run_seq ?_
    refine run_block ?_
    refine run_seq ?_
    refine run_region ?_
    obtain ⟨bs6, rfl⟩ := Res.sl_some (hst.hL _ (.tail _ (.head _))) (by omega)
    refine RunL.cons (Op1.indexSl ty50 ty56 rfl rfl (by omega) (by omega) ?_)
    refine RunL.cons (Op1.loadA (vs := [.int .i64 _, .int .i64 _, .int .i64 _]) ty56 rfl rfl rfl (Res.sl_cells (k := 3) (hst.hL _ (.tail _ (.head _))) _ (flat_seg (g := rowC) (d := (0, 0, 0)) rowC_len _ _ (by omega))) ?_)
    refine RunL.cons (Op1.alloc hst ty56 fun w b8 hst => ?_)
    refine RunL.cons (Op1.store (v := .agg #[.int .i64 _, .int .i64 _, .int .i64 _]) hst ty56 rfl rfl rfl rfl rfl (.here) (by repeat (first | exact Put.nil | apply Put.put | apply Put.skip)) fun w hst => ?_)
    refine RunL.nil ?_
    refine run_seq ?_
    refine run_region ?_
    refine RunL.cons (Op1.fieldAddr fld56_1 rfl ?_)
    refine RunL.cons (Op1.load1 (v := .int .i64 _) ty3 rfl rfl (hst.cellL (.head _) rfl) ?_)
    refine RunL.cons (Op1.assign (v := .int .i64 _) rfl ?_)
    refine RunL.nil ?_
    refine run_block ?_
    refine run_loop ?_
    replace hst := hst.pick (.cons (.there (.here)) (.cons (.here) (.cons (.here) .nil)))
    have sta7 := hst.static (L1 := [_])
    replace hst := hst.toD (L1 := [_])
    refine Run.indS (fun (x : Int) => [(9, .int .i64 x)]) [0, 8, 17, 18, 19] (fun (x : Int) => [R (totN l i + (x - (l.getD i (0, 0, 0)).2.1)).toNat]) (fun (x : Int) => (l.getD i (0, 0, 0)).2.1 ≤ x ∧ x ≤ (l.getD i (0, 0, 0)).2.2) (fun (x : Int) => ((l.getD i (0, 0, 0)).2.2 - x).toNat) (l.getD i (0, 0, 0)).2.1 (by (try dsimp only); rw [show (totN l i + ((l.getD i (0, 0, 0)).2.1 - (l.getD i (0, 0, 0)).2.1)).toNat = (totN l i).toNat by omega]; exact hst) ⟨by omega, by omega⟩ ⟨rfl, trivial⟩ (Keep.refl _ _) ?_
    intro x f w kf8 hst hX ih9
    replace hst := hst.back sta7
    refine Run.slots (sl := [(0, _), (8, .pointer (some ⟨_, _, none⟩)), (17, .slice _ _ _), (18, .int .i64 _), (19, .int .i64 _)]) ⟨(kf8.get 0 rfl).trans rfl, (kf8.get 8 rfl).trans rfl, (kf8.get 17 rfl).trans rfl, (kf8.get 18 rfl).trans rfl, (kf8.get 19 rfl).trans rfl, trivial⟩ ?_
    refine run_seq ?_
    refine run_seq ?_
    refine run_region ?_
    refine RunL.cons (Op1.move (v := .int .i64 _) rfl ?_)
    refine RunL.cons (Op1.fieldAddr fld56_2 rfl ?_)
    refine RunL.cons (Op1.load1 (v := .int .i64 _) ty3 rfl rfl (hst.cellL (.tail _ (.head _)) rfl) ?_)
    refine RunL.cons (Op1.lss rfl rfl ?_)
    refine RunL.nil ?_
    refine run_cond_dec rfl (fun g10 => ?_) (fun g10 => ?_)
    · skip
      refine run_skip ?_
      refine run_seq ?_
      refine run_block ?_
      refine run_seq ?_
      refine run_region ?_
      refine RunL.cons (Op1.move (v := _) rfl ?_)
      refine RunL.cons (Op1.move (v := .int .i64 _) rfl ?_)
      refine RunL.cons (Op1.fieldAddr fld56_0 rfl ?_)
      refine RunL.cons (Op1.load1 (v := .int .i64 _) ty3 rfl rfl (hst.cellL (.tail _ (.head _)) rfl) ?_)
      refine RunL.cons (Op1.callV2 (v1 := .int .i64 _) (v2 := .int .i64 _) rfl rfl rfl ((hyx i x hiv (by omega) (by omega) _ hst.one).mono fun v w hp => ?_))
      rcases hp with ⟨rfl, hp⟩ | ⟨rfl, hp⟩
      · skip
        replace hst := hst.call1 hp
        clear hp
        refine RunL.cons (Op1.not rfl ?_)
        refine RunL.nil ?_
        refine run_cond_false (congrArg Value.bool (congrArg not (rfl : true = _))) ?_
        refine run_skip ?_
        refine run_inBlock ?_
        refine run_region ?_
        refine RunL.cons (Op1.move (v := .int .i64 _) rfl ?_)
        refine RunL.cons (Op1.addN rfl rfl rfl (wrap_i64 (by omega) (by omega)) ?_)
        refine RunL.cons (Op1.assign (v := .int .i64 _) rfl ?_)
        refine RunL.nil ?_
        refine run_inLoop ?_
        have hrw : (totN l i + (x + 1 - (l.getD i (0, 0, 0)).2.1)).toNat = (totN l i + (x - (l.getD i (0, 0, 0)).2.1)).toNat + 1 := by omega
        replace hst := hst.toD (L1 := [_])
        exact ih9 (x + 1) _ w (by omega) (by (try dsimp only); rw [hrw]; exact hst) (⟨by omega, by omega⟩) ⟨rfl, rfl, rfl, rfl, rfl, trivial⟩ ⟨rfl, trivial⟩
      · skip
        replace hst := hst.call1 hp
        clear hp
        refine RunL.cons (Op1.not rfl ?_)
        refine RunL.nil ?_
        refine run_cond_true (congrArg Value.bool (congrArg not (rfl : false = _))) ?_
        refine run_ret0 Try.func72 rfl  ?_
        replace hst := hst.pick (.cons (.here) (.cons (.here) (.cons (.here) .nil)))
        exact .inr ⟨(totN l i + (x - (l.getD i (0, 0, 0)).2.1)).toNat, hlt i x hiv (by omega) (by omega), hst.one⟩
    · skip
      refine run_exit (id := 2) rfl ?_
      refine run_inBlock ?_
      refine run_region ?_
      refine RunL.cons (Op1.addN rfl rfl rfl (wrap_i64 (by omega) (by omega)) ?_)
      refine RunL.cons (Op1.move (v := .int .i64 _) rfl ?_)
      refine RunL.nil ?_
      refine run_inLoop ?_
      have hrw : (totN l (i + 1)).toNat = (totN l i + (x - (l.getD i (0, 0, 0)).2.1)).toNat := by rw [totN]; congr 1; omega
      replace hst := hst.pick (.cons (.here) (.cons (.there (.here)) .nil))
      replace hst := hst.toD (L1 := [_])
      exact ih4 (i + 1) _ w (by omega) (by (try dsimp only); rw [hrw]; exact hst) (by omega) ⟨rfl, rfl, rfl, trivial⟩ ⟨(congrArg (Value.int .i64) (by omega)), trivial⟩
  · skip
    refine run_exit (id := 0) rfl ?_
    refine run_end0 Try.func72 rfl  ?_
    replace hst := hst.pick (.cons (.here) (.cons (.here) .nil))
    obtain rfl : i = l.length := by omega
    exact .inl hst.one

end Go.SK
