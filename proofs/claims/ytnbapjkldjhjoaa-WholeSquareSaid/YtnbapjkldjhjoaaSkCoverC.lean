/-
  Walks of functions, and of the laws over them.
-/
import Derived.Test.YtnbapjkldjhjoaaSkFacts1
import Derived.Test.YtnbapjkldjhjoaaSkEdgeC
import Derived.Test.YtnbapjkldjhjoaaSkCoverB
set_option linter.unusedVariables false
set_option linter.unusedSimpArgs false
namespace Go.SK
open Go Go.Proofs
open Go.RowKit
structure RowOk (p : Int → Bool) (a b F T : Int) : Prop where
  yes : F < T → a ≤ F ∧ T ≤ b ∧ p F = true ∧ p (T - 1) = true ∧ (∀ x, a ≤ x → x < F → p x = false) ∧ (∀ x, T ≤ x → x < b → p x = false)
  no : ¬ F < T → ∀ x, a ≤ x → x < b → p x = false
theorem row_ok {p : Int → Bool} {a b F T : Int} (h1 : a ≤ F) (h2 : ∀ x, a ≤ x → x < F → p x = false) (h3 : ¬ F < b ∨ p F = true) (h4 : T ≤ b) (h5 : ∀ x, T ≤ x → x < b → p x = false) (h6 : ¬ F < T ∨ p (T - 1) = true) : RowOk p a b F T where
  yes := fun h => ⟨h1, h4, h3.resolve_left (by omega), h6.resolve_left (by omega), h2, h5⟩
  no := fun h x hx hb => by
    rcases h3 with h3 | h3
    · exact h2 x hx (by omega)
    · by_cases hlt : x < F
      · exact h2 x hx hlt
      · exact h5 x (by omega) hb
def fstN (p : Int → Bool) (a : Int) : Nat → Nat
  | 0 => 0
  | n + 1 => if p a then 0 else fstN p (a + 1) n + 1
def lstN (p : Int → Bool) (a : Int) : Nat → Nat
  | 0 => 0
  | n + 1 => if p (a + n) then n + 1 else lstN p a n
def rowAt (p : Int → Bool) (a b y : Int) : List (Int × Int × Int) :=
  if lstN p a (b - a).toNat = 0 then [] else [(y, a + fstN p a (b - a).toNat, a + lstN p a (b - a).toNat)]
theorem lstN_spec (p : Int → Bool) (a : Int) : ∀ n : Nat, lstN p a n ≤ n ∧ (∀ x, a + lstN p a n ≤ x → x < a + n → p x = false) ∧ (lstN p a n ≠ 0 → p (a + lstN p a n - 1) = true)
  | 0 => ⟨by simp [lstN], fun x h1 h2 => by simp [lstN] at h1; omega, by simp [lstN]⟩
  | n + 1 => by
    obtain ⟨h1, h2, h3⟩ := lstN_spec p a n
    unfold lstN
    by_cases h : p (a + n) = true
    · rw [if_pos h]
      refine ⟨Nat.le_refl _, fun x hx hb => by omega, fun _ => ?_⟩
      rw [show a + ((n + 1 : Nat) : Int) - 1 = a + n by omega]; exact h
    · rw [if_neg h]
      refine ⟨by omega, fun x hx hb => ?_, h3⟩
      by_cases e : x = a + n
      · rw [e]; simpa using h
      · exact h2 x hx (by omega)
theorem fstN_spec (p : Int → Bool) : ∀ (n : Nat) (a : Int), fstN p a n ≤ n ∧ (∀ x, a ≤ x → x < a + fstN p a n → p x = false) ∧ (fstN p a n < n → p (a + fstN p a n) = true)
  | 0, a => ⟨by simp [fstN], fun x h1 h2 => by simp [fstN] at h2; omega, by simp [fstN]⟩
  | n + 1, a => by
    obtain ⟨h1, h2, h3⟩ := fstN_spec p n (a + 1)
    unfold fstN
    by_cases h : p a = true
    · rw [if_pos h]
      exact ⟨by omega, fun x hx hb => by omega, fun _ => by simpa using h⟩
    · rw [if_neg h]
      refine ⟨by omega, fun x hx hb => ?_, fun hlt => ?_⟩
      · by_cases e : x = a
        · rw [e]; simpa using h
        · exact h2 x (by omega) (by omega)
      · have := h3 (by omega)
        rw [show a + ((fstN p (a + 1) n + 1 : Nat) : Int) = a + 1 + (fstN p (a + 1) n : Int) by omega]; exact this
theorem rowAt_ok {p : Int → Bool} {a b F T : Int} (y : Int) (h : RowOk p a b F T) : rowAt p a b y = if F < T then [(y, F, T)] else [] := by
  obtain ⟨l1, l2, l3⟩ := lstN_spec p a (b - a).toNat
  obtain ⟨f1, f2, f3⟩ := fstN_spec p (b - a).toNat a
  unfold rowAt
  by_cases hlt : F < T
  · obtain ⟨y1, y2, y3, y4, y5, y6⟩ := h.yes hlt
    have e1 : a + (lstN p a (b - a).toNat : Int) = T := by
      rcases Int.lt_trichotomy (a + (lstN p a (b - a).toNat : Int)) T with hh | hh | hh
      · have := l2 (T - 1) (by omega) (by omega); rw [y4] at this; cases this
      · exact hh
      · have := l3 (by omega); rw [y6 _ (by omega) (by omega)] at this; cases this
    have e2 : a + (fstN p a (b - a).toNat : Int) = F := by
      rcases Int.lt_trichotomy (a + (fstN p a (b - a).toNat : Int)) F with hh | hh | hh
      · have := f3 (by omega); rw [y5 _ (by omega) (by omega)] at this; cases this
      · exact hh
      · have := f2 F (by omega) (by omega); rw [y3] at this; cases this
    rw [if_neg (by omega), if_pos hlt, e1, e2]
  · rw [if_neg hlt, if_pos]
    refine Classical.byContradiction fun hne => ?_
    have := l3 hne
    rw [h.no hlt _ (by omega) (by omega)] at this; cases this
theorem rowAt_len (p : Int → Bool) (a b y : Int) : (rowAt p a b y).length ≤ 1 := by unfold rowAt; split <;> simp
@[reducible] def rowC (r : Int × Int × Int) : List Value := [.int .i64 r.1, .int .i64 r.2.1, .int .i64 r.2.2]
theorem rowC_len (r : Int × Int × Int) : (rowC r).length = 3 := rfl
/-- the rows y0, y0 + 1 .. -/
def rowsZ (p : Int → Int → Bool) (a b y0 : Int) : Nat → List (Int × Int × Int)
  | 0 => []
  | k + 1 => rowsZ p a b y0 k ++ rowAt (p (y0 + k)) a b (y0 + k)
theorem rowsZ_len (p : Int → Int → Bool) (a b y0 : Int) : ∀ k, (rowsZ p a b y0 k).length ≤ k
  | 0 => Nat.le_refl _
  | k + 1 => by
    have h1 := rowsZ_len p a b y0 k
    have h2 := rowAt_len (p (y0 + k)) a b (y0 + k)
    simp only [rowsZ, List.length_append]; omega
theorem box_bd {ax ay bx by_ cx cy wd ht x0 x1 y0 y1 : Int} (h : boxV ax ay bx by_ cx cy wd ht = (x0, x1, y0, y1)) : 0 ≤ x0 ∧ x0 ≤ x1 ∧ x1 ≤ 1024 ∧ 0 ≤ y0 ∧ y0 ≤ y1 ∧ y1 ≤ 1024 := by
  unfold boxV at h
  by_cases hb : boxIs ax ay bx by_ cx cy wd ht = true
  · rw [if_pos hb] at h
    have h1 := of_decide_eq_true hb
    have f1 : 0 ≤ fromZ (lo3 ax bx cx) := by unfold fromZ; omega
    have f2 : 0 ≤ fromZ (lo3 ay by_ cy) := by unfold fromZ; omega
    have f3 : toZ (hi3 ax bx cx) wd ≤ wd := by unfold toZ; omega
    have f4 : toZ (hi3 ay by_ cy) ht ≤ ht := by unfold toZ; omega
    simp only [Prod.mk.injEq] at h
    omega
  · rw [if_neg hb] at h
    simp only [Prod.mk.injEq] at h
    omega
theorem stepF {p : Int → Bool} {a F : Int} (h : ∀ x, a ≤ x → x < F → p x = false) (hp : p F = false) : ∀ x, a ≤ x → x < F + 1 → p x = false := fun x h1 h2 => by
  by_cases e : x = F
  · rw [e]; exact hp
  · exact h x h1 (by omega)
theorem stepT {p : Int → Bool} {b T : Int} (h : ∀ x, T ≤ x → x < b → p x = false) (hp : p (T - 1) = false) : ∀ x, T - 1 ≤ x → x < b → p x = false := fun x h1 h2 => by
  by_cases e : x = T - 1
  · rw [e]; exact hp
  · exact h x (by omega) h2
theorem cov_row (ax ay az bx by_ bz cx cy cz : Int) (x0 x1 y : Int) (hx : 0 ≤ x0 ∧ x0 ≤ x1 ∧ x1 ≤ 1024) (w : World) : Ret Try.prog 71 #[.agg #[.int .i32 ax, .int .i32 ay, .int .i32 az, .int .i32 bx, .int .i32 by_, .int .i32 bz, .int .i32 cx, .int .i32 cy, .int .i32 cz], .agg #[.int .i64 x0, .int .i64 x1], .int .i64 y] w (fun v w' => ∃ F T, v = .tuple #[.agg #[.int .i64 y, .int .i64 F, .int .i64 T], .bool (decide (F < T))] ∧ RowOk (fun x => coversZ (clampZ ax) (clampZ ay) (clampZ bx) (clampZ by_) (clampZ cx) (clampZ cy) x y) x0 x1 F T ∧ St w NoM [] [] w') := by
  refine Ret.enter (args := [.agg #[.int .i32 ax, .int .i32 ay, .int .i32 az, .int .i32 bx, .int .i32 by_, .int .i32 bz, .int .i32 cx, .int .i32 cy, .int .i32 cz], .agg #[.int .i64 x0, .int .i64 x1], .int .i64 y]) Try.func71 rfl rfl rfl ?_
  have hst := St.init w
  refine run_seq ?_
  refine run_region ?_
  refine RunL.cons (Op1.box (v := .agg #[.int .i32 _, .int .i32 _, .int .i32 _, .int .i32 _, .int .i32 _, .int .i32 _, .int .i32 _, .int .i32 _, .int .i32 _]) hst rfl rfl fun w b3 hst => ?_)
  refine RunL.cons (Op1.box (v := .agg #[.int .i64 _, .int .i64 _]) hst rfl rfl fun w b4 hst => ?_)
  refine RunL.cons (Op1.alloc hst ty56 fun w b6 hst => ?_)
  refine RunL.cons (Op1.assign (v := .bool _) rfl ?_)
  refine RunL.nil ?_
  refine run_scope ?_
  refine run_seq ?_
  refine run_region ?_
  refine RunL.cons (Op1.move (v := .int .i64 _) rfl ?_)
  refine RunL.cons (Op1.fieldAddr fld47_0 rfl ?_)
  refine RunL.cons (Op1.load1 (v := .int .i64 _) ty3 rfl rfl (hst.cellL (.tail _ (.head _)) rfl) ?_)
  refine RunL.cons (Op1.fieldAddr fld47_1 rfl ?_)
  refine RunL.cons (Op1.load1 (v := .int .i64 _) ty3 rfl rfl (hst.cellL (.tail _ (.head _)) rfl) ?_)
  refine RunL.cons (Op1.buildStruct ty56 stf56 (.cons rfl (v := .int .i64 _) rfl rfl rfl rfl (by repeat (first | exact Put.nil | apply Put.put | apply Put.skip)) (.cons rfl (v := .int .i64 _) rfl rfl rfl rfl (by repeat (first | exact Put.nil | apply Put.put | apply Put.skip)) (.cons rfl (v := .int .i64 _) rfl rfl rfl rfl (by repeat (first | exact Put.nil | apply Put.put | apply Put.skip)) .nil))) ?_)
  refine RunL.cons (Op1.alloc hst ty56 fun w b8 hst => ?_)
  refine RunL.cons (Op1.store (v := .agg #[.int .i64 _, .int .i64 _, .int .i64 _]) hst ty56 rfl rfl rfl rfl rfl (.here) (by repeat (first | exact Put.nil | apply Put.put | apply Put.skip)) fun w hst => ?_)
  refine RunL.nil ?_
  refine run_seq ?_
  refine run_label ?_
  refine run_seq ?_
  refine run_block ?_
  refine run_loop ?_
  have sta1 := hst.static (L1 := [_])
  replace hst := hst.toD (L1 := [_])
  refine Run.indS (fun (F : Int) => []) [2, 3, 6, 8] (fun (F : Int) => [Res.row b8 56 [.int .i64 y, .int .i64 F, .int .i64 x1]]) (fun (F : Int) => x0 ≤ F ∧ F ≤ x1 ∧ ∀ x, x0 ≤ x → x < F → (fun x => coversZ (clampZ ax) (clampZ ay) (clampZ bx) (clampZ by_) (clampZ cx) (clampZ cy) x y) x = false) (fun (F : Int) => (x1 - F).toNat) x0 hst ⟨by omega, by omega, fun x h1 h2 => by omega⟩ trivial (Keep.refl _ _) ?_
  intro F f w kf2 hst hF ih3
  replace hst := hst.back sta1
  refine Run.slots (sl := [(2, .int .i64 _), (3, .pointer (some ⟨_, _, none⟩)), (6, .pointer (some ⟨_, _, none⟩)), (8, .pointer (some ⟨_, _, none⟩))]) ⟨(kf2.get 2 rfl).trans rfl, (kf2.get 3 rfl).trans rfl, (kf2.get 6 rfl).trans rfl, (kf2.get 8 rfl).trans rfl, trivial⟩ ?_
  refine run_seq ?_
  refine run_seq ?_
  refine run_region ?_
  refine RunL.cons (Op1.fieldAddr fld56_1 rfl ?_)
  refine RunL.cons (Op1.load1 (v := .int .i64 _) ty3 rfl rfl (hst.cellL (.head _) rfl) ?_)
  refine RunL.cons (Op1.fieldAddr fld56_2 rfl ?_)
  refine RunL.cons (Op1.load1 (v := .int .i64 _) ty3 rfl rfl (hst.cellL (.head _) rfl) ?_)
  refine RunL.cons (Op1.lss rfl rfl ?_)
  refine RunL.nil ?_
  refine run_cond_dec rfl (fun g4 => ?_) (fun g4 => ?_)
  · skip
    refine run_skip ?_
    refine run_block ?_
    refine run_seq ?_
    refine run_seq ?_
    refine run_region ?_
    refine RunL.cons (Op1.loadA (vs := [.int .i32 _, .int .i32 _, .int .i32 _, .int .i32 _, .int .i32 _, .int .i32 _, .int .i32 _, .int .i32 _, .int .i32 _]) ty27 rfl rfl rfl (cells_of_obj (n := 9) (hst.objL (.tail _ (.tail _ (.tail _ (.head _))))) _ rfl) ?_)
    refine RunL.cons (Op1.fieldAddr fld56_1 rfl ?_)
    refine RunL.cons (Op1.load1 (v := .int .i64 _) ty3 rfl rfl (hst.cellL (.head _) rfl) ?_)
    refine RunL.cons (Op1.move (v := .int .i64 _) rfl ?_)
    refine RunL.cons (Op1.call3 (v1 := .agg #[.int .i32 _, .int .i32 _, .int .i32 _, .int .i32 _, .int .i32 _, .int .i32 _, .int .i32 _, .int .i32 _, .int .i32 _]) (v2 := .int .i64 _) (v3 := .int .i64 _) ent34 rfl rfl rfl rfl ((edge_covers _ _ _ _ _ _ _ _ _ _ _ _).mono fun v w hp => ?_))
    obtain ⟨rfl, hp⟩ := hp
    replace hst := hst.keepc hp
    clear hp
    refine RunL.nil ?_
    refine run_cond_split rfl (fun g5 => ?_) (fun g5 => ?_)
    · skip
      refine run_exit (id := 0) rfl ?_
      refine run_seq ?_
      refine run_label ?_
      refine run_seq ?_
      refine run_block ?_
      refine run_loop ?_
      have sta6 := hst.static (L1 := [_])
      replace hst := hst.toD (L1 := [_])
      refine Run.indS (fun (T : Int) => []) [2, 3, 6, 8] (fun (T : Int) => [Res.row b8 56 [.int .i64 y, .int .i64 F, .int .i64 T]]) (fun (T : Int) => T ≤ x1 ∧ F ≤ T ∧ ∀ x, T ≤ x → x < x1 → (fun x => coversZ (clampZ ax) (clampZ ay) (clampZ bx) (clampZ by_) (clampZ cx) (clampZ cy) x y) x = false) (fun (T : Int) => (T - F).toNat) x1 hst ⟨by omega, by omega, fun x h1 h2 => by omega⟩ trivial (Keep.refl _ _) ?_
      intro T f w kf7 hst hT ih8
      replace hst := hst.back sta6
      refine Run.slots (sl := [(2, .int .i64 _), (3, .pointer (some ⟨_, _, none⟩)), (6, .pointer (some ⟨_, _, none⟩)), (8, .pointer (some ⟨_, _, none⟩))]) ⟨(kf7.get 2 rfl).trans rfl, (kf7.get 3 rfl).trans rfl, (kf7.get 6 rfl).trans rfl, (kf7.get 8 rfl).trans rfl, trivial⟩ ?_
      refine run_seq ?_
      refine run_seq ?_
      refine run_region ?_
      refine RunL.cons (Op1.fieldAddr fld56_1 rfl ?_)
      refine RunL.cons (Op1.load1 (v := .int .i64 _) ty3 rfl rfl (hst.cellL (.head _) rfl) ?_)
      refine RunL.cons (Op1.fieldAddr fld56_2 rfl ?_)
      refine RunL.cons (Op1.load1 (v := .int .i64 _) ty3 rfl rfl (hst.cellL (.head _) rfl) ?_)
      refine RunL.cons (Op1.lss rfl rfl ?_)
      refine RunL.nil ?_
      refine run_cond_dec rfl (fun g9 => ?_) (fun g9 => ?_)
      · skip
        refine run_skip ?_
        refine run_block ?_
        refine run_seq ?_
        refine run_seq ?_
        refine run_region ?_
        refine RunL.cons (Op1.loadA (vs := [.int .i32 _, .int .i32 _, .int .i32 _, .int .i32 _, .int .i32 _, .int .i32 _, .int .i32 _, .int .i32 _, .int .i32 _]) ty27 rfl rfl rfl (cells_of_obj (n := 9) (hst.objL (.tail _ (.tail _ (.tail _ (.head _))))) _ rfl) ?_)
        refine RunL.cons (Op1.fieldAddr fld56_2 rfl ?_)
        refine RunL.cons (Op1.load1 (v := .int .i64 _) ty3 rfl rfl (hst.cellL (.head _) rfl) ?_)
        refine RunL.cons (Op1.subN rfl rfl rfl (wrap_i64 (by omega) (by omega)) ?_)
        refine RunL.cons (Op1.move (v := .int .i64 _) rfl ?_)
        refine RunL.cons (Op1.call3 (v1 := .agg #[.int .i32 _, .int .i32 _, .int .i32 _, .int .i32 _, .int .i32 _, .int .i32 _, .int .i32 _, .int .i32 _, .int .i32 _]) (v2 := .int .i64 _) (v3 := .int .i64 _) ent34 rfl rfl rfl rfl ((edge_covers _ _ _ _ _ _ _ _ _ _ _ _).mono fun v w hp => ?_))
        obtain ⟨rfl, hp⟩ := hp
        replace hst := hst.keepc hp
        clear hp
        refine RunL.nil ?_
        refine run_cond_split rfl (fun g10 => ?_) (fun g10 => ?_)
        · skip
          refine run_exit (id := 2) rfl ?_
          refine run_seq ?_
          replace hst := hst.pick (.cons (.there (.here)) (.cons (.here) (.cons (.here) (.cons (.here) .nil))))
          apply RunD.start [(6, Res.row b6 56 _, Res.row b6 56 _)] hst (bs := [0, 0, 2, 0, 8, 30, 1, 127]) (ds := [some 44, some 45, some 46, some 47, some 48, some 49, none, some 7]) (htab := ⟨by kernel_rfl, by kernel_rfl, by kernel_rfl⟩)
          intro tab11
          refine RunD.op (det _) tab11 1 (fun f' L' w' hc => Op1.loadA (vs := [.int .i64 _, .int .i64 _, .int .i64 _]) ty56 rfl (hc.old (v := .pointer (some ⟨_, _, none⟩)) rfl rfl rfl) rfl (cells_of_obj (n := 3) (hc.st.objL (List.mem_append_right _ (.head _))) _ rfl) ⟨[], ⟨rfl, rfl⟩, hc.st⟩) ?_
          refine RunD.op (det _) tab11 2 (fun f' L' w' hc => Op1.fieldAddr fld56_1 (hc.old (v := .pointer (some ⟨_, _, none⟩)) rfl rfl rfl) ⟨[], ⟨rfl, rfl⟩, hc.st⟩) ?_
          refine RunD.op (det _) tab11 3 (fun f' L' w' hc => Op1.load1 (v := .int .i64 _) ty3 rfl (hc.det (j := 1) rfl rfl rfl rfl) (hc.st.cellL (List.mem_append_right _ (.head _)) rfl) ⟨[], ⟨rfl, rfl⟩, hc.st⟩) ?_
          refine RunD.op (det _) tab11 4 (fun f' L' w' hc => Op1.fieldAddr fld56_2 (hc.old (v := .pointer (some ⟨_, _, none⟩)) rfl rfl rfl) ⟨[], ⟨rfl, rfl⟩, hc.st⟩) ?_
          refine RunD.op (det _) tab11 5 (fun f' L' w' hc => Op1.load1 (v := .int .i64 _) ty3 rfl (hc.det (j := 3) rfl rfl rfl rfl) (hc.st.cellL (List.mem_append_right _ (.head _)) rfl) ⟨[], ⟨rfl, rfl⟩, hc.st⟩) ?_
          refine RunD.op (det _) tab11 6 (fun f' L' w' hc => Op1.lss (hc.det (j := 2) rfl rfl rfl rfl) (hc.det (j := 4) rfl rfl rfl rfl) ⟨[], ⟨rfl, rfl⟩, hc.st⟩) ?_
          refine RunD.own tab11 7 (.head _) (fun f' L' L2 w' hc hsel => Op1.store (v := .agg #[.int .i64 _, .int .i64 _, .int .i64 _]) hc.st ty56 (hc.old (v := .pointer (some ⟨_, _, none⟩)) rfl rfl rfl) (hc.det (j := 0) rfl rfl rfl rfl) rfl rfl rfl hsel (by repeat (first | exact Put.nil | apply Put.put | apply Put.skip)) fun w hst => ⟨rfl, hst⟩) ?_
          refine RunD.fin followsMixed tab11 hst rfl (fun f12 w R15 hs13 hd14 hr16 hst => ?_)
          obtain ⟨h44_, r0⟩ := hd14 0 44 rfl rfl
          obtain ⟨h45_, r1⟩ := hd14 1 45 rfl rfl
          obtain ⟨h46_, r2⟩ := hd14 2 46 rfl rfl
          obtain ⟨h47_, r3⟩ := hd14 3 47 rfl rfl
          obtain ⟨h48_, r4⟩ := hd14 4 48 rfl rfl
          obtain ⟨h49_, r5⟩ := hd14 5 49 rfl rfl
          obtain ⟨_, _, r6⟩ := hr16 6 rfl
          simp only [show List.range 7 = [0, 1, 2, 3, 4, 5, 6] from rfl, List.flatMap_cons, List.flatMap_nil, List.map_cons, List.map_nil, r0, r1, r2, r3, r4, r5, r6, List.nil_append, List.append_nil, List.cons_append] at hst
          refine RunL.slots (sl := [(6, .pointer (some ⟨_, _, none⟩)), (49, .bool _)]) ⟨(hs13 6 rfl).trans rfl, h49_, trivial⟩ ?_
          clear hs13 hd14 hr16 tab11
          refine RunL.cons (Op1.assign (v := .bool _) rfl ?_)
          refine RunL.nil ?_
          refine run_ret2 Try.func71 rfl (RV.cellA (vs := [.int .i64 _, .int .i64 _, .int .i64 _]) rfl ty56 rfl rfl (cells_of_obj (n := 3) (hst.objL (.head _)) _ rfl)) (RV.tmp (v := .bool _) rfl) ?_
          exact ⟨F, T, rfl, row_ok (p := (fun x => coversZ (clampZ ax) (clampZ ay) (clampZ bx) (clampZ by_) (clampZ cx) (clampZ cy) x y)) hF.1 hF.2.2 (.inr g5) hT.1 hT.2.2 (.inr g10), hst.pure⟩
        · skip
          refine run_skip ?_
          refine run_region ?_
          refine RunL.cons (Op1.fieldAddr fld56_2 rfl ?_)
          refine RunL.cons (Op1.load1 (v := .int .i64 _) ty3 rfl rfl (hst.cellL (.head _) rfl) ?_)
          refine RunL.cons (Op1.subN rfl rfl rfl (wrap_i64 (by omega) (by omega)) ?_)
          refine RunL.cons (Op1.fieldAddr fld56_2 rfl ?_)
          refine RunL.cons (Op1.store (v := .int .i64 _) hst ty3 rfl rfl rfl rfl rfl (.here) (by repeat (first | exact Put.nil | apply Put.put | apply Put.skip)) fun w hst => ?_)
          refine RunL.nil ?_
          refine run_inBlock ?_
          refine run_inLoop ?_
          replace hst := hst.toD (L1 := [_])
          exact ih8 (T - 1) _ w (by omega) hst (⟨by omega, by omega, stepT hT.2.2 g10⟩) ⟨rfl, rfl, rfl, rfl, trivial⟩ trivial
      · skip
        refine run_exit (id := 2) rfl ?_
        refine run_seq ?_
        replace hst := hst.pick (.cons (.there (.here)) (.cons (.here) (.cons (.here) (.cons (.here) .nil))))
        apply RunD.start [(6, Res.row b6 56 _, Res.row b6 56 _)] hst (bs := [0, 0, 2, 0, 8, 30, 1, 127]) (ds := [some 44, some 45, some 46, some 47, some 48, some 49, none, some 7]) (htab := ⟨by kernel_rfl, by kernel_rfl, by kernel_rfl⟩)
        intro tab17
        refine RunD.op (det _) tab17 1 (fun f' L' w' hc => Op1.loadA (vs := [.int .i64 _, .int .i64 _, .int .i64 _]) ty56 rfl (hc.old (v := .pointer (some ⟨_, _, none⟩)) rfl rfl rfl) rfl (cells_of_obj (n := 3) (hc.st.objL (List.mem_append_right _ (.head _))) _ rfl) ⟨[], ⟨rfl, rfl⟩, hc.st⟩) ?_
        refine RunD.op (det _) tab17 2 (fun f' L' w' hc => Op1.fieldAddr fld56_1 (hc.old (v := .pointer (some ⟨_, _, none⟩)) rfl rfl rfl) ⟨[], ⟨rfl, rfl⟩, hc.st⟩) ?_
        refine RunD.op (det _) tab17 3 (fun f' L' w' hc => Op1.load1 (v := .int .i64 _) ty3 rfl (hc.det (j := 1) rfl rfl rfl rfl) (hc.st.cellL (List.mem_append_right _ (.head _)) rfl) ⟨[], ⟨rfl, rfl⟩, hc.st⟩) ?_
        refine RunD.op (det _) tab17 4 (fun f' L' w' hc => Op1.fieldAddr fld56_2 (hc.old (v := .pointer (some ⟨_, _, none⟩)) rfl rfl rfl) ⟨[], ⟨rfl, rfl⟩, hc.st⟩) ?_
        refine RunD.op (det _) tab17 5 (fun f' L' w' hc => Op1.load1 (v := .int .i64 _) ty3 rfl (hc.det (j := 3) rfl rfl rfl rfl) (hc.st.cellL (List.mem_append_right _ (.head _)) rfl) ⟨[], ⟨rfl, rfl⟩, hc.st⟩) ?_
        refine RunD.op (det _) tab17 6 (fun f' L' w' hc => Op1.lss (hc.det (j := 2) rfl rfl rfl rfl) (hc.det (j := 4) rfl rfl rfl rfl) ⟨[], ⟨rfl, rfl⟩, hc.st⟩) ?_
        refine RunD.own tab17 7 (.head _) (fun f' L' L2 w' hc hsel => Op1.store (v := .agg #[.int .i64 _, .int .i64 _, .int .i64 _]) hc.st ty56 (hc.old (v := .pointer (some ⟨_, _, none⟩)) rfl rfl rfl) (hc.det (j := 0) rfl rfl rfl rfl) rfl rfl rfl hsel (by repeat (first | exact Put.nil | apply Put.put | apply Put.skip)) fun w hst => ⟨rfl, hst⟩) ?_
        refine RunD.fin followsMixed tab17 hst rfl (fun f18 w R21 hs19 hd20 hr22 hst => ?_)
        obtain ⟨h44_, r0⟩ := hd20 0 44 rfl rfl
        obtain ⟨h45_, r1⟩ := hd20 1 45 rfl rfl
        obtain ⟨h46_, r2⟩ := hd20 2 46 rfl rfl
        obtain ⟨h47_, r3⟩ := hd20 3 47 rfl rfl
        obtain ⟨h48_, r4⟩ := hd20 4 48 rfl rfl
        obtain ⟨h49_, r5⟩ := hd20 5 49 rfl rfl
        obtain ⟨_, _, r6⟩ := hr22 6 rfl
        simp only [show List.range 7 = [0, 1, 2, 3, 4, 5, 6] from rfl, List.flatMap_cons, List.flatMap_nil, List.map_cons, List.map_nil, r0, r1, r2, r3, r4, r5, r6, List.nil_append, List.append_nil, List.cons_append] at hst
        refine RunL.slots (sl := [(6, .pointer (some ⟨_, _, none⟩)), (49, .bool _)]) ⟨(hs19 6 rfl).trans rfl, h49_, trivial⟩ ?_
        clear hs19 hd20 hr22 tab17
        refine RunL.cons (Op1.assign (v := .bool _) rfl ?_)
        refine RunL.nil ?_
        refine run_ret2 Try.func71 rfl (RV.cellA (vs := [.int .i64 _, .int .i64 _, .int .i64 _]) rfl ty56 rfl rfl (cells_of_obj (n := 3) (hst.objL (.head _)) _ rfl)) (RV.tmp (v := .bool _) rfl) ?_
        exact ⟨F, T, rfl, row_ok (p := (fun x => coversZ (clampZ ax) (clampZ ay) (clampZ bx) (clampZ by_) (clampZ cx) (clampZ cy) x y)) hF.1 hF.2.2 (.inr g5) hT.1 hT.2.2 (.inl (by omega)), hst.pure⟩
    · skip
      refine run_skip ?_
      refine run_region ?_
      refine RunL.cons (Op1.fieldAddr fld56_1 rfl ?_)
      refine RunL.cons (Op1.load1 (v := .int .i64 _) ty3 rfl rfl (hst.cellL (.head _) rfl) ?_)
      refine RunL.cons (Op1.addN rfl rfl rfl (wrap_i64 (by omega) (by omega)) ?_)
      refine RunL.cons (Op1.fieldAddr fld56_1 rfl ?_)
      refine RunL.cons (Op1.store (v := .int .i64 _) hst ty3 rfl rfl rfl rfl rfl (.here) (by repeat (first | exact Put.nil | apply Put.put | apply Put.skip)) fun w hst => ?_)
      refine RunL.nil ?_
      refine run_inBlock ?_
      refine run_inLoop ?_
      replace hst := hst.toD (L1 := [_])
      exact ih3 (F + 1) _ w (by omega) hst (⟨by omega, by omega, stepF hF.2.2 g5⟩) ⟨rfl, rfl, rfl, rfl, trivial⟩ trivial
  · skip
    refine run_exit (id := 0) rfl ?_
    refine run_seq ?_
    refine run_label ?_
    refine run_seq ?_
    refine run_block ?_
    refine run_loop ?_
    have sta23 := hst.static (L1 := [_])
    replace hst := hst.toD (L1 := [_])
    refine Run.indS (fun (T : Int) => []) [2, 3, 6, 8] (fun (T : Int) => [Res.row b8 56 [.int .i64 y, .int .i64 F, .int .i64 T]]) (fun (T : Int) => T ≤ x1 ∧ F ≤ T ∧ ∀ x, T ≤ x → x < x1 → (fun x => coversZ (clampZ ax) (clampZ ay) (clampZ bx) (clampZ by_) (clampZ cx) (clampZ cy) x y) x = false) (fun (T : Int) => (T - F).toNat) x1 hst ⟨by omega, by omega, fun x h1 h2 => by omega⟩ trivial (Keep.refl _ _) ?_
    intro T f w kf24 hst hT ih25
    replace hst := hst.back sta23
    refine Run.slots (sl := [(2, .int .i64 _), (3, .pointer (some ⟨_, _, none⟩)), (6, .pointer (some ⟨_, _, none⟩)), (8, .pointer (some ⟨_, _, none⟩))]) ⟨(kf24.get 2 rfl).trans rfl, (kf24.get 3 rfl).trans rfl, (kf24.get 6 rfl).trans rfl, (kf24.get 8 rfl).trans rfl, trivial⟩ ?_
    refine run_seq ?_
    refine run_seq ?_
    refine run_region ?_
    refine RunL.cons (Op1.fieldAddr fld56_1 rfl ?_)
    refine RunL.cons (Op1.load1 (v := .int .i64 _) ty3 rfl rfl (hst.cellL (.head _) rfl) ?_)
    refine RunL.cons (Op1.fieldAddr fld56_2 rfl ?_)
    refine RunL.cons (Op1.load1 (v := .int .i64 _) ty3 rfl rfl (hst.cellL (.head _) rfl) ?_)
    refine RunL.cons (Op1.lss rfl rfl ?_)
    refine RunL.nil ?_
    refine run_cond_dec rfl (fun g26 => ?_) (fun g26 => ?_)
    · skip
      refine run_skip ?_
      refine run_block ?_
      refine run_seq ?_
      refine run_seq ?_
      refine run_region ?_
      refine RunL.cons (Op1.loadA (vs := [.int .i32 _, .int .i32 _, .int .i32 _, .int .i32 _, .int .i32 _, .int .i32 _, .int .i32 _, .int .i32 _, .int .i32 _]) ty27 rfl rfl rfl (cells_of_obj (n := 9) (hst.objL (.tail _ (.tail _ (.tail _ (.head _))))) _ rfl) ?_)
      refine RunL.cons (Op1.fieldAddr fld56_2 rfl ?_)
      refine RunL.cons (Op1.load1 (v := .int .i64 _) ty3 rfl rfl (hst.cellL (.head _) rfl) ?_)
      refine RunL.cons (Op1.subN rfl rfl rfl (wrap_i64 (by omega) (by omega)) ?_)
      refine RunL.cons (Op1.move (v := .int .i64 _) rfl ?_)
      refine RunL.cons (Op1.call3 (v1 := .agg #[.int .i32 _, .int .i32 _, .int .i32 _, .int .i32 _, .int .i32 _, .int .i32 _, .int .i32 _, .int .i32 _, .int .i32 _]) (v2 := .int .i64 _) (v3 := .int .i64 _) ent34 rfl rfl rfl rfl ((edge_covers _ _ _ _ _ _ _ _ _ _ _ _).mono fun v w hp => ?_))
      obtain ⟨rfl, hp⟩ := hp
      replace hst := hst.keepc hp
      clear hp
      refine RunL.nil ?_
      refine run_cond_split rfl (fun g27 => ?_) (fun g27 => ?_)
      · skip
        refine run_exit (id := 2) rfl ?_
        refine run_seq ?_
        replace hst := hst.pick (.cons (.there (.here)) (.cons (.here) (.cons (.here) (.cons (.here) .nil))))
        apply RunD.start [(6, Res.row b6 56 _, Res.row b6 56 _)] hst (bs := [0, 0, 2, 0, 8, 30, 1, 127]) (ds := [some 44, some 45, some 46, some 47, some 48, some 49, none, some 7]) (htab := ⟨by kernel_rfl, by kernel_rfl, by kernel_rfl⟩)
        intro tab28
        refine RunD.op (det _) tab28 1 (fun f' L' w' hc => Op1.loadA (vs := [.int .i64 _, .int .i64 _, .int .i64 _]) ty56 rfl (hc.old (v := .pointer (some ⟨_, _, none⟩)) rfl rfl rfl) rfl (cells_of_obj (n := 3) (hc.st.objL (List.mem_append_right _ (.head _))) _ rfl) ⟨[], ⟨rfl, rfl⟩, hc.st⟩) ?_
        refine RunD.op (det _) tab28 2 (fun f' L' w' hc => Op1.fieldAddr fld56_1 (hc.old (v := .pointer (some ⟨_, _, none⟩)) rfl rfl rfl) ⟨[], ⟨rfl, rfl⟩, hc.st⟩) ?_
        refine RunD.op (det _) tab28 3 (fun f' L' w' hc => Op1.load1 (v := .int .i64 _) ty3 rfl (hc.det (j := 1) rfl rfl rfl rfl) (hc.st.cellL (List.mem_append_right _ (.head _)) rfl) ⟨[], ⟨rfl, rfl⟩, hc.st⟩) ?_
        refine RunD.op (det _) tab28 4 (fun f' L' w' hc => Op1.fieldAddr fld56_2 (hc.old (v := .pointer (some ⟨_, _, none⟩)) rfl rfl rfl) ⟨[], ⟨rfl, rfl⟩, hc.st⟩) ?_
        refine RunD.op (det _) tab28 5 (fun f' L' w' hc => Op1.load1 (v := .int .i64 _) ty3 rfl (hc.det (j := 3) rfl rfl rfl rfl) (hc.st.cellL (List.mem_append_right _ (.head _)) rfl) ⟨[], ⟨rfl, rfl⟩, hc.st⟩) ?_
        refine RunD.op (det _) tab28 6 (fun f' L' w' hc => Op1.lss (hc.det (j := 2) rfl rfl rfl rfl) (hc.det (j := 4) rfl rfl rfl rfl) ⟨[], ⟨rfl, rfl⟩, hc.st⟩) ?_
        refine RunD.own tab28 7 (.head _) (fun f' L' L2 w' hc hsel => Op1.store (v := .agg #[.int .i64 _, .int .i64 _, .int .i64 _]) hc.st ty56 (hc.old (v := .pointer (some ⟨_, _, none⟩)) rfl rfl rfl) (hc.det (j := 0) rfl rfl rfl rfl) rfl rfl rfl hsel (by repeat (first | exact Put.nil | apply Put.put | apply Put.skip)) fun w hst => ⟨rfl, hst⟩) ?_
        refine RunD.fin followsMixed tab28 hst rfl (fun f29 w R32 hs30 hd31 hr33 hst => ?_)
        obtain ⟨h44_, r0⟩ := hd31 0 44 rfl rfl
        obtain ⟨h45_, r1⟩ := hd31 1 45 rfl rfl
        obtain ⟨h46_, r2⟩ := hd31 2 46 rfl rfl
        obtain ⟨h47_, r3⟩ := hd31 3 47 rfl rfl
        obtain ⟨h48_, r4⟩ := hd31 4 48 rfl rfl
        obtain ⟨h49_, r5⟩ := hd31 5 49 rfl rfl
        obtain ⟨_, _, r6⟩ := hr33 6 rfl
        simp only [show List.range 7 = [0, 1, 2, 3, 4, 5, 6] from rfl, List.flatMap_cons, List.flatMap_nil, List.map_cons, List.map_nil, r0, r1, r2, r3, r4, r5, r6, List.nil_append, List.append_nil, List.cons_append] at hst
        refine RunL.slots (sl := [(6, .pointer (some ⟨_, _, none⟩)), (49, .bool _)]) ⟨(hs30 6 rfl).trans rfl, h49_, trivial⟩ ?_
        clear hs30 hd31 hr33 tab28
        refine RunL.cons (Op1.assign (v := .bool _) rfl ?_)
        refine RunL.nil ?_
        refine run_ret2 Try.func71 rfl (RV.cellA (vs := [.int .i64 _, .int .i64 _, .int .i64 _]) rfl ty56 rfl rfl (cells_of_obj (n := 3) (hst.objL (.head _)) _ rfl)) (RV.tmp (v := .bool _) rfl) ?_
        exact ⟨F, T, rfl, row_ok (p := (fun x => coversZ (clampZ ax) (clampZ ay) (clampZ bx) (clampZ by_) (clampZ cx) (clampZ cy) x y)) hF.1 hF.2.2 (.inl (by omega)) hT.1 hT.2.2 (.inr g27), hst.pure⟩
      · skip
        refine run_skip ?_
        refine run_region ?_
        refine RunL.cons (Op1.fieldAddr fld56_2 rfl ?_)
        refine RunL.cons (Op1.load1 (v := .int .i64 _) ty3 rfl rfl (hst.cellL (.head _) rfl) ?_)
        refine RunL.cons (Op1.subN rfl rfl rfl (wrap_i64 (by omega) (by omega)) ?_)
        refine RunL.cons (Op1.fieldAddr fld56_2 rfl ?_)
        refine RunL.cons (Op1.store (v := .int .i64 _) hst ty3 rfl rfl rfl rfl rfl (.here) (by repeat (first | exact Put.nil | apply Put.put | apply Put.skip)) fun w hst => ?_)
        refine RunL.nil ?_
        refine run_inBlock ?_
        refine run_inLoop ?_
        replace hst := hst.toD (L1 := [_])
        exact ih25 (T - 1) _ w (by omega) hst (⟨by omega, by omega, stepT hT.2.2 g27⟩) ⟨rfl, rfl, rfl, rfl, trivial⟩ trivial
    · skip
      refine run_exit (id := 2) rfl ?_
      refine run_seq ?_
      replace hst := hst.pick (.cons (.there (.here)) (.cons (.here) (.cons (.here) (.cons (.here) .nil))))
      apply RunD.start [(6, Res.row b6 56 _, Res.row b6 56 _)] hst (bs := [0, 0, 2, 0, 8, 30, 1, 127]) (ds := [some 44, some 45, some 46, some 47, some 48, some 49, none, some 7]) (htab := ⟨by kernel_rfl, by kernel_rfl, by kernel_rfl⟩)
      intro tab34
      refine RunD.op (det _) tab34 1 (fun f' L' w' hc => Op1.loadA (vs := [.int .i64 _, .int .i64 _, .int .i64 _]) ty56 rfl (hc.old (v := .pointer (some ⟨_, _, none⟩)) rfl rfl rfl) rfl (cells_of_obj (n := 3) (hc.st.objL (List.mem_append_right _ (.head _))) _ rfl) ⟨[], ⟨rfl, rfl⟩, hc.st⟩) ?_
      refine RunD.op (det _) tab34 2 (fun f' L' w' hc => Op1.fieldAddr fld56_1 (hc.old (v := .pointer (some ⟨_, _, none⟩)) rfl rfl rfl) ⟨[], ⟨rfl, rfl⟩, hc.st⟩) ?_
      refine RunD.op (det _) tab34 3 (fun f' L' w' hc => Op1.load1 (v := .int .i64 _) ty3 rfl (hc.det (j := 1) rfl rfl rfl rfl) (hc.st.cellL (List.mem_append_right _ (.head _)) rfl) ⟨[], ⟨rfl, rfl⟩, hc.st⟩) ?_
      refine RunD.op (det _) tab34 4 (fun f' L' w' hc => Op1.fieldAddr fld56_2 (hc.old (v := .pointer (some ⟨_, _, none⟩)) rfl rfl rfl) ⟨[], ⟨rfl, rfl⟩, hc.st⟩) ?_
      refine RunD.op (det _) tab34 5 (fun f' L' w' hc => Op1.load1 (v := .int .i64 _) ty3 rfl (hc.det (j := 3) rfl rfl rfl rfl) (hc.st.cellL (List.mem_append_right _ (.head _)) rfl) ⟨[], ⟨rfl, rfl⟩, hc.st⟩) ?_
      refine RunD.op (det _) tab34 6 (fun f' L' w' hc => Op1.lss (hc.det (j := 2) rfl rfl rfl rfl) (hc.det (j := 4) rfl rfl rfl rfl) ⟨[], ⟨rfl, rfl⟩, hc.st⟩) ?_
      refine RunD.own tab34 7 (.head _) (fun f' L' L2 w' hc hsel => Op1.store (v := .agg #[.int .i64 _, .int .i64 _, .int .i64 _]) hc.st ty56 (hc.old (v := .pointer (some ⟨_, _, none⟩)) rfl rfl rfl) (hc.det (j := 0) rfl rfl rfl rfl) rfl rfl rfl hsel (by repeat (first | exact Put.nil | apply Put.put | apply Put.skip)) fun w hst => ⟨rfl, hst⟩) ?_
      refine RunD.fin followsMixed tab34 hst rfl (fun f35 w R38 hs36 hd37 hr39 hst => ?_)
      obtain ⟨h44_, r0⟩ := hd37 0 44 rfl rfl
      obtain ⟨h45_, r1⟩ := hd37 1 45 rfl rfl
      obtain ⟨h46_, r2⟩ := hd37 2 46 rfl rfl
      obtain ⟨h47_, r3⟩ := hd37 3 47 rfl rfl
      obtain ⟨h48_, r4⟩ := hd37 4 48 rfl rfl
      obtain ⟨h49_, r5⟩ := hd37 5 49 rfl rfl
      obtain ⟨_, _, r6⟩ := hr39 6 rfl
      simp only [show List.range 7 = [0, 1, 2, 3, 4, 5, 6] from rfl, List.flatMap_cons, List.flatMap_nil, List.map_cons, List.map_nil, r0, r1, r2, r3, r4, r5, r6, List.nil_append, List.append_nil, List.cons_append] at hst
      refine RunL.slots (sl := [(6, .pointer (some ⟨_, _, none⟩)), (49, .bool _)]) ⟨(hs36 6 rfl).trans rfl, h49_, trivial⟩ ?_
      clear hs36 hd37 hr39 tab34
      refine RunL.cons (Op1.assign (v := .bool _) rfl ?_)
      refine RunL.nil ?_
      refine run_ret2 Try.func71 rfl (RV.cellA (vs := [.int .i64 _, .int .i64 _, .int .i64 _]) rfl ty56 rfl rfl (cells_of_obj (n := 3) (hst.objL (.head _)) _ rfl)) (RV.tmp (v := .bool _) rfl) ?_
      exact ⟨F, T, rfl, row_ok (p := (fun x => coversZ (clampZ ax) (clampZ ay) (clampZ bx) (clampZ by_) (clampZ cx) (clampZ cy) x y)) hF.1 hF.2.2 (.inl (by omega)) hT.1 hT.2.2 (.inl (by omega)), hst.pure⟩

end Go.SK
