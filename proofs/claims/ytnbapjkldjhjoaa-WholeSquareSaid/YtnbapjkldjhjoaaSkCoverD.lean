/-
  Walks of functions, and of the laws over them.
-/
import Derived.Test.YtnbapjkldjhjoaaSkFacts1
import Derived.Test.YtnbapjkldjhjoaaSkCoverC
set_option linter.unusedVariables false
set_option linter.unusedSimpArgs false
namespace Go.SK
open Go Go.Proofs
open Go.RowKit
/-- the rows of pixels that a triangle covers -/
def covRows (ax ay bx by_ cx cy wd ht : Int) : List (Int × Int × Int) :=
  if 1 ≤ wd ∧ wd ≤ 1024 ∧ 1 ≤ ht ∧ ht ≤ 1024 then rowsZ (fun y x => coversZ ax ay bx by_ cx cy x y) (boxV ax ay bx by_ cx cy wd ht).1 (boxV ax ay bx by_ cx cy wd ht).2.1 (boxV ax ay bx by_ cx cy wd ht).2.2.1 ((boxV ax ay bx by_ cx cy wd ht).2.2.2 - (boxV ax ay bx by_ cx cy wd ht).2.2.1).toNat else []
def errZ (wd ht : Int) : Int := if 1 ≤ wd ∧ wd ≤ 1024 ∧ 1 ≤ ht ∧ ht ≤ 1024 then 0 else 2
theorem rows_of_box {ax ay bx by_ cx cy wd ht x0 x1 y0 y1 : Int} (h : 1 ≤ wd ∧ wd ≤ 1024 ∧ 1 ≤ ht ∧ ht ≤ 1024) (hB : boxV ax ay bx by_ cx cy wd ht = (x0, x1, y0, y1)) :
    covRows ax ay bx by_ cx cy wd ht = rowsZ (fun y x => coversZ ax ay bx by_ cx cy x y) x0 x1 y0 (y1 - y0).toNat := by
  unfold covRows; rw [if_pos h, hB]
theorem rows_no {ax ay bx by_ cx cy wd ht : Int} (h : ¬ (1 ≤ wd ∧ wd ≤ 1024 ∧ 1 ≤ ht ∧ ht ≤ 1024)) : covRows ax ay bx by_ cx cy wd ht = [] := if_neg h
structure RowI (p : Int → Bool) (a x F T : Int) : Prop where
  or : (F = -1 ∧ T = 0 ∧ ∀ z, a ≤ z → z < x → p z = false) ∨ (a ≤ F ∧ F < T ∧ T ≤ x ∧ p F = true ∧ p (T - 1) = true ∧ (∀ z, a ≤ z → z < F → p z = false) ∧ (∀ z, T ≤ z → z < x → p z = false))
theorem RowI.start (p : Int → Bool) (a : Int) : RowI p a a (-1) 0 := ⟨.inl ⟨rfl, rfl, fun z h1 h2 => by omega⟩⟩
theorem RowI.no {p : Int → Bool} {a x F T : Int} (h : RowI p a x F T) (hp : p x = false) : RowI p a (x + 1) F T := by
  rcases h.or with ⟨h1, h2, h3⟩ | ⟨h1, h2, h3, h4, h5, h6, h7⟩
  · exact ⟨.inl ⟨h1, h2, stepF h3 hp⟩⟩
  · exact ⟨.inr ⟨h1, h2, by omega, h4, h5, h6, stepF h7 hp⟩⟩
theorem RowI.first {p : Int → Bool} {a x F T : Int} (ha : 0 ≤ a) (hx : a ≤ x) (h : RowI p a x F T) (hp : p x = true) (hF : F < 0) : RowI p a (x + 1) x (x + 1) := by
  rcases h.or with ⟨h1, h2, h3⟩ | ⟨h1, h2, h3, h4, h5, h6, h7⟩
  · exact ⟨.inr ⟨hx, by omega, by omega, hp, by rw [show x + 1 - 1 = x by omega]; exact hp, h3, fun z h1 h2 => by omega⟩⟩
  · omega
theorem RowI.next {p : Int → Bool} {a x F T : Int} (ha : 0 ≤ a) (h : RowI p a x F T) (hp : p x = true) (hF : ¬ F < 0) : RowI p a (x + 1) F (x + 1) := by
  rcases h.or with ⟨h1, h2, h3⟩ | ⟨h1, h2, h3, h4, h5, h6, h7⟩
  · omega
  · exact ⟨.inr ⟨h1, by omega, by omega, h4, by rw [show x + 1 - 1 = x by omega]; exact hp, h6, fun z h1 h2 => by omega⟩⟩
theorem RowI.row {p : Int → Bool} {a b F T : Int} (y : Int) (ha : 0 ≤ a) (h : RowI p a b F T) : rowAt p a b y = if 0 ≤ F then [(y, F, T)] else [] := by
  rcases h.or with ⟨h1, h2, h3⟩ | ⟨h1, h2, h3, h4, h5, h6, h7⟩
  · rw [if_neg (by omega), rowAt_ok (F := b) (T := b) y ⟨fun h => by omega, fun _ => h3⟩, if_neg (by omega)]
  · rw [if_pos (by omega), rowAt_ok (F := F) (T := T) y ⟨fun _ => ⟨h1, h3, h4, h5, h6, h7⟩, fun h => by omega⟩, if_pos h2]
theorem cov_Box2 (ax ay az bx by_ bz cx cy cz wd ht : Int) (w : World) {x0 x1 y0 y1 : Int} (hB : boxV (clampZ ax) (clampZ ay) (clampZ bx) (clampZ by_) (clampZ cx) (clampZ cy) wd ht = (x0, x1, y0, y1)) :
    Ret Try.prog 39 #[.agg #[.int .i32 ax, .int .i32 ay, .int .i32 az, .int .i32 bx, .int .i32 by_, .int .i32 bz, .int .i32 cx, .int .i32 cy, .int .i32 cz], .int .i64 wd, .int .i64 ht] w fun v w' => v = .tuple #[.agg #[.int .i64 x0, .int .i64 x1], .agg #[.int .i64 y0, .int .i64 y1], .bool (boxIs (clampZ ax) (clampZ ay) (clampZ bx) (clampZ by_) (clampZ cx) (clampZ cy) wd ht)] ∧ St w NoM [] [] w' := by
  have t := cov_Box ax ay az bx by_ bz cx cy cz wd ht w
  rw [hB] at t; exact t
theorem ref_Box282 (ax ay az bx by_ bz cx cy cz wd ht : Int) (w : World) {x0 x1 y0 y1 : Int} (hB : boxV (clampZ ax) (clampZ ay) (clampZ bx) (clampZ by_) (clampZ cx) (clampZ cy) wd ht = (x0, x1, y0, y1)) :
    Ret Try.prog 38 #[.agg #[.int .i32 ax, .int .i32 ay, .int .i32 az, .int .i32 bx, .int .i32 by_, .int .i32 bz, .int .i32 cx, .int .i32 cy, .int .i32 cz], .int .i64 wd, .int .i64 ht] w fun v w' => v = .tuple #[.agg #[.int .i64 x0, .int .i64 x1], .agg #[.int .i64 y0, .int .i64 y1], .bool (boxIs (clampZ ax) (clampZ ay) (clampZ bx) (clampZ by_) (clampZ cx) (clampZ cy) wd ht)] ∧ St w NoM [] [] w' := by
  have t := ref_Box28 ax ay az bx by_ bz cx cy cz wd ht w
  rw [hB] at t; exact t
set_option maxHeartbeats 1000000 in
theorem cov_Rows (ax ay az bx by_ bz cx cy cz : Int) (wd ht : Int) (w : World) : Ret Try.prog 42 #[.agg #[.int .i32 ax, .int .i32 ay, .int .i32 az, .int .i32 bx, .int .i32 by_, .int .i32 bz, .int .i32 cx, .int .i32 cy, .int .i32 cz], .int .i64 wd, .int .i64 ht] w (fun v w' => ∃ ao cap, v = .tuple #[.slice ao (covRows (clampZ ax) (clampZ ay) (clampZ bx) (clampZ by_) (clampZ cx) (clampZ cy) wd ht).length cap, .int .i64 (errZ wd ht)] ∧ St w NoM [Res.sl ao (covRows (clampZ ax) (clampZ ay) (clampZ bx) (clampZ by_) (clampZ cx) (clampZ cy) wd ht).length cap 56 3 ((covRows (clampZ ax) (clampZ ay) (clampZ bx) (clampZ by_) (clampZ cx) (clampZ cy) wd ht).flatMap rowC)] [] w') := by
  refine Ret.enter (args := [.agg #[.int .i32 ax, .int .i32 ay, .int .i32 az, .int .i32 bx, .int .i32 by_, .int .i32 bz, .int .i32 cx, .int .i32 cy, .int .i32 cz], .int .i64 wd, .int .i64 ht]) Try.func42 rfl rfl rfl ?_
  have hst := St.init w
  rcases hB : boxV (clampZ ax) (clampZ ay) (clampZ bx) (clampZ by_) (clampZ cx) (clampZ cy) wd ht with ⟨x0, x1, y0, y1⟩
  have hbd := box_bd hB
  refine run_seq ?_
  refine run_region ?_
  refine RunL.cons (Op1.box (v := .agg #[.int .i32 _, .int .i32 _, .int .i32 _, .int .i32 _, .int .i32 _, .int .i32 _, .int .i32 _, .int .i32 _, .int .i32 _]) hst rfl rfl fun w b3 hst => ?_)
  refine RunL.cons (Op1.assign (v := .slice _ _ _) rfl ?_)
  refine RunL.cons (Op1.assign (v := .int .i64 _) rfl ?_)
  refine RunL.nil ?_
  refine run_seq ?_
  refine run_seq ?_
  refine run_region ?_
  refine RunL.cons (Op1.move (v := .int .i64 _) rfl ?_)
  refine RunL.cons (Op1.move (v := .int .i64 _) rfl ?_)
  refine RunL.cons (Op1.call2 (v1 := .int .i64 _) (v2 := .int .i64 _) ent66 rfl rfl rfl ((cov_picture _ _ _).mono fun v w hp => ?_))
  obtain ⟨rfl, hp⟩ := hp
  replace hst := hst.keepc hp
  clear hp
  refine RunL.cons (Op1.notD rfl ?_)
  refine RunL.nil ?_
  refine run_cond_dec rfl (fun g1 => ?_) (fun g1 => ?_)
  · skip
    refine run_seq ?_
    refine run_region ?_
    refine RunL.cons (Op1.assign (v := .slice _ _ _) rfl ?_)
    refine RunL.cons (Op1.assign (v := .int .i64 _) rfl ?_)
    refine RunL.nil ?_
    refine run_ret2 Try.func42 rfl (RV.tmp (v := .slice _ _ _) rfl) (RV.tmp (v := .int .i64 _) rfl) ?_
    replace hst := hst.pushNil 56 3
    replace hst := hst.pick (.cons (.here) .nil)
    rw [rows_no (by omega), show errZ wd ht = 2 from if_neg (by omega)]
    exact ⟨none, 0, rfl, hst⟩
  · skip
    refine run_skip ?_
    refine run_seq ?_
    refine run_region ?_
    refine RunL.cons (Op1.assign (v := .slice _ _ _) rfl ?_)
    refine RunL.nil ?_
    refine run_seq ?_
    refine run_region ?_
    refine RunL.cons (Op1.loadA (vs := [.int .i32 _, .int .i32 _, .int .i32 _, .int .i32 _, .int .i32 _, .int .i32 _, .int .i32 _, .int .i32 _, .int .i32 _]) ty27 rfl rfl rfl (cells_of_obj (n := 9) (hst.objL (.head _)) _ rfl) ?_)
    refine RunL.cons (Op1.move (v := .int .i64 _) rfl ?_)
    refine RunL.cons (Op1.move (v := .int .i64 _) rfl ?_)
    refine RunL.cons (Op1.call3 (v1 := .agg #[.int .i32 _, .int .i32 _, .int .i32 _, .int .i32 _, .int .i32 _, .int .i32 _, .int .i32 _, .int .i32 _, .int .i32 _]) (v2 := .int .i64 _) (v3 := .int .i64 _) ent39 rfl rfl rfl rfl ((cov_Box2 _ _ _ _ _ _ _ _ _ _ _ _ hB).mono fun v w hp => ?_))
    obtain ⟨rfl, hp⟩ := hp
    replace hst := hst.keepc hp
    clear hp
    refine RunL.cons (Op1.move (v := .tuple #[.agg #[.int .i64 _, .int .i64 _], .agg #[.int .i64 _, .int .i64 _], .bool _]) rfl ?_)
    refine RunL.cons (Op1.extract (v := .agg #[.int .i64 _, .int .i64 _]) rfl rfl ?_)
    refine RunL.cons (Op1.extract (v := .agg #[.int .i64 _, .int .i64 _]) rfl rfl ?_)
    refine RunL.cons (Op1.extract (v := .bool _) rfl rfl ?_)
    refine RunL.cons (Op1.alloc hst ty47 fun w b9 hst => ?_)
    refine RunL.cons (Op1.alloc hst ty47 fun w b10 hst => ?_)
    refine RunL.cons (Op1.store (v := .agg #[.int .i64 _, .int .i64 _]) hst ty47 rfl rfl rfl rfl rfl (.there (.here)) (by repeat (first | exact Put.nil | apply Put.put | apply Put.skip)) fun w hst => ?_)
    refine RunL.cons (Op1.store (v := .agg #[.int .i64 _, .int .i64 _]) hst ty47 rfl rfl rfl rfl rfl (.here) (by repeat (first | exact Put.nil | apply Put.put | apply Put.skip)) fun w hst => ?_)
    refine RunL.cons (Op1.assign (v := .bool _) rfl ?_)
    refine RunL.nil ?_
    refine run_seq ?_
    refine run_seq ?_
    refine run_region ?_
    refine RunL.cons (Op1.fieldAddr fld47_0 rfl ?_)
    refine RunL.cons (Op1.load1 (v := .int .i64 _) ty3 rfl rfl (hst.cellL (.head _) rfl) ?_)
    refine RunL.cons (Op1.assign (v := .int .i64 _) rfl ?_)
    refine RunL.nil ?_
    refine run_block ?_
    refine run_loop ?_
    replace hst := hst.pushNil 56 3
    have sta2 := hst.static (L1 := [_])
    replace hst := hst.toD (L1 := [_])
    refine Run.indS (fun (q : Option Addr × Nat × Nat) => [(8, .slice q.1 (rowsZ (fun y x => coversZ (clampZ ax) (clampZ ay) (clampZ bx) (clampZ by_) (clampZ cx) (clampZ cy) x y) x0 x1 y0 q.2.2).length q.2.1), (12, .int .i64 (y0 + (q.2.2 : Int)))]) [3, 9, 10] (fun (q : Option Addr × Nat × Nat) => [Res.sl q.1 (rowsZ (fun y x => coversZ (clampZ ax) (clampZ ay) (clampZ bx) (clampZ by_) (clampZ cx) (clampZ cy) x y) x0 x1 y0 q.2.2).length q.2.1 56 3 ((rowsZ (fun y x => coversZ (clampZ ax) (clampZ ay) (clampZ bx) (clampZ by_) (clampZ cx) (clampZ cy) x y) x0 x1 y0 q.2.2).flatMap rowC)]) (fun (q : Option Addr × Nat × Nat) => q.2.2 ≤ (y1 - y0).toNat) (fun (q : Option Addr × Nat × Nat) => (y1 - y0).toNat - q.2.2) (none, 0, 0) hst (Nat.zero_le _) ⟨rfl, (congrArg (Value.int .i64) (by simp : y0 = y0 + ((0 : Nat) : Int))), trivial⟩ (Keep.refl _ _) ?_
    intro ⟨ao, cap, k⟩ f w kf3 hst hJ ih4
    replace hst : St _ _ [Res.sl ao (rowsZ (fun y x => coversZ (clampZ ax) (clampZ ay) (clampZ bx) (clampZ by_) (clampZ cx) (clampZ cy) x y) x0 x1 y0 k).length cap 56 3 ((rowsZ (fun y x => coversZ (clampZ ax) (clampZ ay) (clampZ bx) (clampZ by_) (clampZ cx) (clampZ cy) x y) x0 x1 y0 k).flatMap rowC)] _ _ := hst
    replace hJ : k ≤ (y1 - y0).toNat := hJ
    replace hst := hst.back sta2
    have hk : k ≤ (y1 - y0).toNat := hJ
    have hl := rowsZ_len (fun y x => coversZ (clampZ ax) (clampZ ay) (clampZ bx) (clampZ by_) (clampZ cx) (clampZ cy) x y) x0 x1 y0 k
    refine Run.slots (sl := [(3, .pointer (some ⟨_, _, none⟩)), (9, .pointer (some ⟨_, _, none⟩)), (10, .pointer (some ⟨_, _, none⟩)), (8, .slice ao (rowsZ (fun y x => coversZ (clampZ ax) (clampZ ay) (clampZ bx) (clampZ by_) (clampZ cx) (clampZ cy) x y) x0 x1 y0 k).length cap), (12, .int .i64 (y0 + (k : Int)))]) ⟨(kf3.get 3 rfl).trans rfl, (kf3.get 9 rfl).trans rfl, (kf3.get 10 rfl).trans rfl, rfl, rfl, trivial⟩ ?_
    refine run_seq ?_
    refine run_seq ?_
    refine run_region ?_
    refine RunL.cons (Op1.move (v := .int .i64 _) rfl ?_)
    refine RunL.cons (Op1.fieldAddr fld47_1 rfl ?_)
    refine RunL.cons (Op1.load1 (v := .int .i64 _) ty3 rfl rfl (hst.cellL (.tail _ (.head _)) rfl) ?_)
    refine RunL.cons (Op1.lss rfl rfl ?_)
    refine RunL.nil ?_
    refine run_cond_dec rfl (fun g5 => ?_) (fun g5 => ?_)
    · skip
      refine run_skip ?_
      refine run_seq ?_
      refine run_block ?_
      refine run_seq ?_
      refine run_region ?_
      refine RunL.cons (Op1.loadA (vs := [.int .i32 _, .int .i32 _, .int .i32 _, .int .i32 _, .int .i32 _, .int .i32 _, .int .i32 _, .int .i32 _, .int .i32 _]) ty27 rfl rfl rfl (cells_of_obj (n := 9) (hst.objL (.tail _ (.tail _ (.tail _ (.head _))))) _ rfl) ?_)
      refine RunL.cons (Op1.loadA (vs := [.int .i64 _, .int .i64 _]) ty47 rfl rfl rfl (cells_of_obj (n := 2) (hst.objL (.tail _ (.tail _ (.head _)))) _ rfl) ?_)
      refine RunL.cons (Op1.move (v := .int .i64 _) rfl ?_)
      refine RunL.cons (Op1.call3 (v1 := .agg #[.int .i32 _, .int .i32 _, .int .i32 _, .int .i32 _, .int .i32 _, .int .i32 _, .int .i32 _, .int .i32 _, .int .i32 _]) (v2 := .agg #[.int .i64 _, .int .i64 _]) (v3 := .int .i64 _) ent71 rfl rfl rfl rfl ((cov_row _ _ _ _ _ _ _ _ _ x0 x1 _ (by omega) _).mono fun v w hp => ?_))
      obtain ⟨F, T, rfl, hrow, hp⟩ := hp
      replace hst := hst.keepc hp
      clear hp
      refine RunL.cons (Op1.move (v := .tuple #[.agg #[.int .i64 _, .int .i64 _, .int .i64 _], .bool _]) rfl ?_)
      refine RunL.cons (Op1.extract (v := .agg #[.int .i64 _, .int .i64 _, .int .i64 _]) rfl rfl ?_)
      refine RunL.cons (Op1.extract (v := .bool _) rfl rfl ?_)
      refine RunL.cons (Op1.alloc hst ty56 fun w b13 hst => ?_)
      refine RunL.cons (Op1.store (v := .agg #[.int .i64 _, .int .i64 _, .int .i64 _]) hst ty56 rfl rfl rfl rfl rfl (.here) (by repeat (first | exact Put.nil | apply Put.put | apply Put.skip)) fun w hst => ?_)
      refine RunL.cons (Op1.assign (v := .bool _) rfl ?_)
      refine RunL.nil ?_
      refine run_seq ?_
      refine run_region ?_
      refine RunL.cons (Op1.move (v := .bool _) rfl ?_)
      refine RunL.nil ?_
      refine run_cond_dec rfl (fun g6 => ?_) (fun g6 => ?_)
      · skip
        refine run_region ?_
        refine RunL.cons (Op1.move (v := .slice _ _ _) rfl ?_)
        refine RunL.cons (Op1.loadA (vs := [.int .i64 _, .int .i64 _, .int .i64 _]) ty56 rfl rfl rfl (cells_of_obj (n := 3) (hst.objL (.head _)) _ rfl) ?_)
        refine RunL.cons (Op1.buildSl (z0 := [.int .i64 0, .int .i64 0, .int .i64 0]) hst ty50 ty56 rfl rfl (by kernel_rfl) (.cons rfl (v := .agg #[.int .i64 _, .int .i64 _, .int .i64 _]) rfl rfl rfl rfl (by repeat (first | exact Put.nil | apply Put.put | apply Put.skip)) .nil) fun w b45 hst => ?_)
        refine RunL.cons (Op1.append (news := [.int .i64 _, .int .i64 _, .int .i64 _]) hst ty50 ty56 rfl rfl (.there (.there (.here))) rfl rfl rfl (cells_of_obj (n := 3) (hst.objL (.head _)) _ rfl) rfl rfl (by omega) fun w ao7 cp8 hst => ?_)
        refine RunL.cons (Op1.assign (v := .slice _ _ _) rfl ?_)
        refine RunL.nil ?_
        refine run_inBlock ?_
        refine run_region ?_
        refine RunL.cons (Op1.move (v := .int .i64 _) rfl ?_)
        refine RunL.cons (Op1.addN rfl rfl rfl (wrap_i64 (by omega) (by omega)) ?_)
        refine RunL.cons (Op1.assign (v := .int .i64 _) rfl ?_)
        refine RunL.nil ?_
        refine run_inLoop ?_
        have he : rowsZ (fun y x => coversZ (clampZ ax) (clampZ ay) (clampZ bx) (clampZ by_) (clampZ cx) (clampZ cy) x y) x0 x1 y0 (k + 1) = rowsZ (fun y x => coversZ (clampZ ax) (clampZ ay) (clampZ bx) (clampZ by_) (clampZ cx) (clampZ cy) x y) x0 x1 y0 k ++ [(y0 + (k : Int), F, T)] := by rw [rowsZ, rowAt_ok _ hrow, if_pos g6]
        have hn : (rowsZ (fun y x => coversZ (clampZ ax) (clampZ ay) (clampZ bx) (clampZ by_) (clampZ cx) (clampZ cy) x y) x0 x1 y0 k).length + 1 = (rowsZ (fun y x => coversZ (clampZ ax) (clampZ ay) (clampZ bx) (clampZ by_) (clampZ cx) (clampZ cy) x y) x0 x1 y0 (k + 1)).length := by rw [he]; simp
        replace hst := hst.pick (.cons (.here) (.cons (.there (.there (.here))) (.cons (.there (.there (.here))) (.cons (.there (.there (.here))) .nil))))
        replace hst := hst.toD (L1 := [_])
        exact ih4 (ao7, cp8, k + 1) _ w (by (try dsimp only); omega) (by (try dsimp only); rw [he, ← Res.sl_snoc]; exact hst) (by (try dsimp only); omega) ⟨rfl, rfl, rfl, trivial⟩ ⟨(congrArg (fun n => Value.slice _ n _) hn), (congrArg (Value.int .i64) (by (try dsimp only); omega)), trivial⟩
      · skip
        refine run_skip ?_
        refine run_inBlock ?_
        refine run_region ?_
        refine RunL.cons (Op1.move (v := .int .i64 _) rfl ?_)
        refine RunL.cons (Op1.addN rfl rfl rfl (wrap_i64 (by omega) (by omega)) ?_)
        refine RunL.cons (Op1.assign (v := .int .i64 _) rfl ?_)
        refine RunL.nil ?_
        refine run_inLoop ?_
        have he : rowsZ (fun y x => coversZ (clampZ ax) (clampZ ay) (clampZ bx) (clampZ by_) (clampZ cx) (clampZ cy) x y) x0 x1 y0 (k + 1) = rowsZ (fun y x => coversZ (clampZ ax) (clampZ ay) (clampZ bx) (clampZ by_) (clampZ cx) (clampZ cy) x y) x0 x1 y0 k := by rw [rowsZ, rowAt_ok _ hrow, if_neg g6, List.append_nil]
        have hn : (rowsZ (fun y x => coversZ (clampZ ax) (clampZ ay) (clampZ bx) (clampZ by_) (clampZ cx) (clampZ cy) x y) x0 x1 y0 k).length = (rowsZ (fun y x => coversZ (clampZ ax) (clampZ ay) (clampZ bx) (clampZ by_) (clampZ cx) (clampZ cy) x y) x0 x1 y0 (k + 1)).length := by rw [he]
        replace hst := hst.pick (.cons (.there (.here)) (.cons (.there (.here)) (.cons (.there (.here)) (.cons (.there (.here)) .nil))))
        replace hst := hst.toD (L1 := [_])
        exact ih4 (ao, cap, k + 1) _ w (by (try dsimp only); omega) (by (try dsimp only); rw [he]; exact hst) (by (try dsimp only); omega) ⟨rfl, rfl, rfl, trivial⟩ ⟨(congrArg (fun n => Value.slice _ n _) hn), (congrArg (Value.int .i64) (by (try dsimp only); omega)), trivial⟩
    · skip
      refine run_exit (id := 0) rfl ?_
      refine run_seq ?_
      refine run_region ?_
      refine RunL.cons (Op1.move (v := .slice _ _ _) rfl ?_)
      refine RunL.cons (Op1.assign (v := .slice _ _ _) rfl ?_)
      refine RunL.cons (Op1.assign (v := .int .i64 _) rfl ?_)
      refine RunL.nil ?_
      refine run_ret2 Try.func42 rfl (RV.tmp (v := .slice _ _ _) rfl) (RV.tmp (v := .int .i64 _) rfl) ?_
      replace hst := hst.pick (.cons (.here) .nil)
      obtain rfl : k = (y1 - y0).toNat := by omega
      rw [rows_of_box (by omega) hB, show errZ wd ht = 0 from if_pos (by omega)]
      exact ⟨ao, cap, rfl, hst⟩

set_option maxHeartbeats 1000000 in
theorem ref_Rows28 (ax ay az bx by_ bz cx cy cz : Int) (wd ht : Int) (w : World) : Ret Try.prog 41 #[.agg #[.int .i32 ax, .int .i32 ay, .int .i32 az, .int .i32 bx, .int .i32 by_, .int .i32 bz, .int .i32 cx, .int .i32 cy, .int .i32 cz], .int .i64 wd, .int .i64 ht] w (fun v w' => ∃ ao cap, v = .tuple #[.slice ao (covRows (clampZ ax) (clampZ ay) (clampZ bx) (clampZ by_) (clampZ cx) (clampZ cy) wd ht).length cap, .int .i64 (errZ wd ht)] ∧ St w NoM [Res.sl ao (covRows (clampZ ax) (clampZ ay) (clampZ bx) (clampZ by_) (clampZ cx) (clampZ cy) wd ht).length cap 56 3 ((covRows (clampZ ax) (clampZ ay) (clampZ bx) (clampZ by_) (clampZ cx) (clampZ cy) wd ht).flatMap rowC)] [] w') := by
  refine Ret.enter (args := [.agg #[.int .i32 ax, .int .i32 ay, .int .i32 az, .int .i32 bx, .int .i32 by_, .int .i32 bz, .int .i32 cx, .int .i32 cy, .int .i32 cz], .int .i64 wd, .int .i64 ht]) Try.func41 rfl rfl rfl ?_
  have hst := St.init w
  rcases hB : boxV (clampZ ax) (clampZ ay) (clampZ bx) (clampZ by_) (clampZ cx) (clampZ cy) wd ht with ⟨x0, x1, y0, y1⟩
  have hbd := box_bd hB
  refine run_seq ?_
  refine run_region ?_
  refine RunL.cons (Op1.box (v := .agg #[.int .i32 _, .int .i32 _, .int .i32 _, .int .i32 _, .int .i32 _, .int .i32 _, .int .i32 _, .int .i32 _, .int .i32 _]) hst rfl rfl fun w b3 hst => ?_)
  refine RunL.cons (Op1.assign (v := .slice _ _ _) rfl ?_)
  refine RunL.cons (Op1.assign (v := .int .i64 _) rfl ?_)
  refine RunL.nil ?_
  refine run_seq ?_
  refine run_seq ?_
  refine run_region ?_
  refine RunL.cons (Op1.move (v := .int .i64 _) rfl ?_)
  refine RunL.cons (Op1.move (v := .int .i64 _) rfl ?_)
  refine RunL.cons (Op1.call2 (v1 := .int .i64 _) (v2 := .int .i64 _) ent63 rfl rfl rfl ((ref_picture _ _ _).mono fun v w hp => ?_))
  obtain ⟨rfl, hp⟩ := hp
  replace hst := hst.keepc hp
  clear hp
  refine RunL.cons (Op1.notD rfl ?_)
  refine RunL.nil ?_
  refine run_cond_dec rfl (fun g1 => ?_) (fun g1 => ?_)
  · skip
    refine run_seq ?_
    refine run_region ?_
    refine RunL.cons (Op1.assign (v := .slice _ _ _) rfl ?_)
    refine RunL.cons (Op1.assign (v := .int .i64 _) rfl ?_)
    refine RunL.nil ?_
    refine run_ret2 Try.func41 rfl (RV.tmp (v := .slice _ _ _) rfl) (RV.tmp (v := .int .i64 _) rfl) ?_
    replace hst := hst.pushNil 56 3
    replace hst := hst.pick (.cons (.here) .nil)
    rw [rows_no (by omega), show errZ wd ht = 2 from if_neg (by omega)]
    exact ⟨none, 0, rfl, hst⟩
  · skip
    refine run_skip ?_
    refine run_seq ?_
    refine run_region ?_
    refine RunL.cons (Op1.assign (v := .slice _ _ _) rfl ?_)
    refine RunL.nil ?_
    refine run_seq ?_
    refine run_region ?_
    refine RunL.cons (Op1.loadA (vs := [.int .i32 _, .int .i32 _, .int .i32 _, .int .i32 _, .int .i32 _, .int .i32 _, .int .i32 _, .int .i32 _, .int .i32 _]) ty27 rfl rfl rfl (cells_of_obj (n := 9) (hst.objL (.head _)) _ rfl) ?_)
    refine RunL.cons (Op1.move (v := .int .i64 _) rfl ?_)
    refine RunL.cons (Op1.move (v := .int .i64 _) rfl ?_)
    refine RunL.cons (Op1.call3 (v1 := .agg #[.int .i32 _, .int .i32 _, .int .i32 _, .int .i32 _, .int .i32 _, .int .i32 _, .int .i32 _, .int .i32 _, .int .i32 _]) (v2 := .int .i64 _) (v3 := .int .i64 _) ent38 rfl rfl rfl rfl ((ref_Box282 _ _ _ _ _ _ _ _ _ _ _ _ hB).mono fun v w hp => ?_))
    obtain ⟨rfl, hp⟩ := hp
    replace hst := hst.keepc hp
    clear hp
    refine RunL.cons (Op1.move (v := .tuple #[.agg #[.int .i64 _, .int .i64 _], .agg #[.int .i64 _, .int .i64 _], .bool _]) rfl ?_)
    refine RunL.cons (Op1.extract (v := .agg #[.int .i64 _, .int .i64 _]) rfl rfl ?_)
    refine RunL.cons (Op1.extract (v := .agg #[.int .i64 _, .int .i64 _]) rfl rfl ?_)
    refine RunL.cons (Op1.extract (v := .bool _) rfl rfl ?_)
    refine RunL.cons (Op1.alloc hst ty47 fun w b9 hst => ?_)
    refine RunL.cons (Op1.alloc hst ty47 fun w b10 hst => ?_)
    refine RunL.cons (Op1.store (v := .agg #[.int .i64 _, .int .i64 _]) hst ty47 rfl rfl rfl rfl rfl (.there (.here)) (by repeat (first | exact Put.nil | apply Put.put | apply Put.skip)) fun w hst => ?_)
    refine RunL.cons (Op1.store (v := .agg #[.int .i64 _, .int .i64 _]) hst ty47 rfl rfl rfl rfl rfl (.here) (by repeat (first | exact Put.nil | apply Put.put | apply Put.skip)) fun w hst => ?_)
    refine RunL.cons (Op1.assign (v := .bool _) rfl ?_)
    refine RunL.nil ?_
    refine run_seq ?_
    refine run_seq ?_
    refine run_region ?_
    refine RunL.cons (Op1.fieldAddr fld47_0 rfl ?_)
    refine RunL.cons (Op1.load1 (v := .int .i64 _) ty3 rfl rfl (hst.cellL (.head _) rfl) ?_)
    refine RunL.cons (Op1.assign (v := .int .i64 _) rfl ?_)
    refine RunL.nil ?_
    refine run_block ?_
    refine run_loop ?_
    replace hst := hst.pushNil 56 3
    have sta2 := hst.static (L1 := [_])
    replace hst := hst.toD (L1 := [_])
    refine Run.indS (fun (q : Option Addr × Nat × Nat) => [(8, .slice q.1 (rowsZ (fun y x => coversZ (clampZ ax) (clampZ ay) (clampZ bx) (clampZ by_) (clampZ cx) (clampZ cy) x y) x0 x1 y0 q.2.2).length q.2.1), (12, .int .i64 (y0 + (q.2.2 : Int)))]) [3, 9, 10] (fun (q : Option Addr × Nat × Nat) => [Res.sl q.1 (rowsZ (fun y x => coversZ (clampZ ax) (clampZ ay) (clampZ bx) (clampZ by_) (clampZ cx) (clampZ cy) x y) x0 x1 y0 q.2.2).length q.2.1 56 3 ((rowsZ (fun y x => coversZ (clampZ ax) (clampZ ay) (clampZ bx) (clampZ by_) (clampZ cx) (clampZ cy) x y) x0 x1 y0 q.2.2).flatMap rowC)]) (fun (q : Option Addr × Nat × Nat) => q.2.2 ≤ (y1 - y0).toNat) (fun (q : Option Addr × Nat × Nat) => (y1 - y0).toNat - q.2.2) (none, 0, 0) hst (Nat.zero_le _) ⟨rfl, (congrArg (Value.int .i64) (by simp : y0 = y0 + ((0 : Nat) : Int))), trivial⟩ (Keep.refl _ _) ?_
    intro ⟨ao, cap, k⟩ f w kf3 hst hJ ih4
    replace hst : St _ _ [Res.sl ao (rowsZ (fun y x => coversZ (clampZ ax) (clampZ ay) (clampZ bx) (clampZ by_) (clampZ cx) (clampZ cy) x y) x0 x1 y0 k).length cap 56 3 ((rowsZ (fun y x => coversZ (clampZ ax) (clampZ ay) (clampZ bx) (clampZ by_) (clampZ cx) (clampZ cy) x y) x0 x1 y0 k).flatMap rowC)] _ _ := hst
    replace hJ : k ≤ (y1 - y0).toNat := hJ
    replace hst := hst.back sta2
    have hk : k ≤ (y1 - y0).toNat := hJ
    have hl := rowsZ_len (fun y x => coversZ (clampZ ax) (clampZ ay) (clampZ bx) (clampZ by_) (clampZ cx) (clampZ cy) x y) x0 x1 y0 k
    refine Run.slots (sl := [(3, .pointer (some ⟨_, _, none⟩)), (9, .pointer (some ⟨_, _, none⟩)), (10, .pointer (some ⟨_, _, none⟩)), (8, .slice ao (rowsZ (fun y x => coversZ (clampZ ax) (clampZ ay) (clampZ bx) (clampZ by_) (clampZ cx) (clampZ cy) x y) x0 x1 y0 k).length cap), (12, .int .i64 (y0 + (k : Int)))]) ⟨(kf3.get 3 rfl).trans rfl, (kf3.get 9 rfl).trans rfl, (kf3.get 10 rfl).trans rfl, rfl, rfl, trivial⟩ ?_
    refine run_seq ?_
    refine run_seq ?_
    refine run_region ?_
    refine RunL.cons (Op1.move (v := .int .i64 _) rfl ?_)
    refine RunL.cons (Op1.fieldAddr fld47_1 rfl ?_)
    refine RunL.cons (Op1.load1 (v := .int .i64 _) ty3 rfl rfl (hst.cellL (.tail _ (.head _)) rfl) ?_)
    refine RunL.cons (Op1.lss rfl rfl ?_)
    refine RunL.nil ?_
    refine run_cond_dec rfl (fun g5 => ?_) (fun g5 => ?_)
    · skip
      refine run_skip ?_
      refine run_seq ?_
      refine run_block ?_
      refine run_seq ?_
      refine run_region ?_
      refine RunL.cons (Op1.move (v := .int .i64 _) rfl ?_)
      refine RunL.cons (Op1.buildStruct ty56 stf56 (.cons rfl (v := .int .i64 _) rfl rfl rfl rfl (by repeat (first | exact Put.nil | apply Put.put | apply Put.skip)) (.cons rfl (v := .int .i64 _) rfl rfl rfl rfl (by repeat (first | exact Put.nil | apply Put.put | apply Put.skip)) .nil)) ?_)
      refine RunL.cons (Op1.alloc hst ty56 fun w b13 hst => ?_)
      refine RunL.cons (Op1.store (v := .agg #[.int .i64 _, .int .i64 _, .int .i64 _]) hst ty56 rfl rfl rfl rfl rfl (.here) (by repeat (first | exact Put.nil | apply Put.put | apply Put.skip)) fun w hst => ?_)
      refine RunL.nil ?_
      refine run_seq ?_
      refine run_seq ?_
      refine run_region ?_
      refine RunL.cons (Op1.fieldAddr fld47_0 rfl ?_)
      refine RunL.cons (Op1.load1 (v := .int .i64 _) ty3 rfl rfl (hst.cellL (.tail _ (.tail _ (.tail _ (.head _)))) rfl) ?_)
      refine RunL.cons (Op1.assign (v := .int .i64 _) rfl ?_)
      refine RunL.nil ?_
      refine run_block ?_
      refine run_loop ?_
      have sta6 := hst.static (L1 := [_])
      replace hst := hst.toD (L1 := [_])
      refine Run.indS (fun (r : Int × Int × Int) => [(14, .int .i64 r.1)]) [3, 8, 9, 10, 12, 13] (fun (r : Int × Int × Int) => [Res.row b13 56 [.int .i64 (y0 + (k : Int)), .int .i64 r.2.1, .int .i64 r.2.2]]) (fun (r : Int × Int × Int) => (x0 ≤ r.1 ∧ r.1 ≤ x1) ∧ RowI (fun x => coversZ (clampZ ax) (clampZ ay) (clampZ bx) (clampZ by_) (clampZ cx) (clampZ cy) x (y0 + (k : Int))) x0 r.1 r.2.1 r.2.2) (fun (r : Int × Int × Int) => (x1 - r.1).toNat) (x0, -1, 0) hst ⟨by (try dsimp only); omega, RowI.start _ _⟩ ⟨rfl, trivial⟩ (Keep.refl _ _) ?_
      intro ⟨x, F, T⟩ f w kf7 hst hI ih8
      replace hst : St _ _ [Res.row b13 56 [.int .i64 (y0 + (k : Int)), .int .i64 F, .int .i64 T]] _ _ := hst
      replace hI : (x0 ≤ x ∧ x ≤ x1) ∧ RowI (fun x => coversZ (clampZ ax) (clampZ ay) (clampZ bx) (clampZ by_) (clampZ cx) (clampZ cy) x (y0 + (k : Int))) x0 x F T := hI
      replace hst := hst.back sta6
      have hI1 : x0 ≤ x ∧ x ≤ x1 := hI.1
      have hI2 : RowI (fun x => coversZ (clampZ ax) (clampZ ay) (clampZ bx) (clampZ by_) (clampZ cx) (clampZ cy) x (y0 + (k : Int))) x0 x F T := hI.2
      clear hI
      refine Run.slots (sl := [(3, .pointer (some ⟨_, _, none⟩)), (8, .slice _ _ _), (9, .pointer (some ⟨_, _, none⟩)), (10, .pointer (some ⟨_, _, none⟩)), (12, .int .i64 _), (13, .pointer (some ⟨_, _, none⟩)), (14, .int .i64 x)]) ⟨(kf7.get 3 rfl).trans rfl, (kf7.get 8 rfl).trans rfl, (kf7.get 9 rfl).trans rfl, (kf7.get 10 rfl).trans rfl, (kf7.get 12 rfl).trans rfl, (kf7.get 13 rfl).trans rfl, rfl, trivial⟩ ?_
      refine run_seq ?_
      refine run_seq ?_
      refine run_region ?_
      refine RunL.cons (Op1.move (v := .int .i64 _) rfl ?_)
      refine RunL.cons (Op1.fieldAddr fld47_1 rfl ?_)
      refine RunL.cons (Op1.load1 (v := .int .i64 _) ty3 rfl rfl (hst.cellL (.tail _ (.tail _ (.tail _ (.head _)))) rfl) ?_)
      refine RunL.cons (Op1.lss rfl rfl ?_)
      refine RunL.nil ?_
      refine run_cond_dec rfl (fun g9 => ?_) (fun g9 => ?_)
      · skip
        refine run_skip ?_
        refine run_seq ?_
        refine run_block ?_
        refine run_seq ?_
        refine run_seq ?_
        refine run_region ?_
        refine RunL.cons (Op1.loadA (vs := [.int .i32 _, .int .i32 _, .int .i32 _, .int .i32 _, .int .i32 _, .int .i32 _, .int .i32 _, .int .i32 _, .int .i32 _]) ty27 rfl rfl rfl (cells_of_obj (n := 9) (hst.objL (.tail _ (.tail _ (.tail _ (.tail _ (.head _)))))) _ rfl) ?_)
        refine RunL.cons (Op1.move (v := .int .i64 _) rfl ?_)
        refine RunL.cons (Op1.move (v := .int .i64 _) rfl ?_)
        refine RunL.cons (Op1.call3 (v1 := .agg #[.int .i32 _, .int .i32 _, .int .i32 _, .int .i32 _, .int .i32 _, .int .i32 _, .int .i32 _, .int .i32 _, .int .i32 _]) (v2 := .int .i64 _) (v3 := .int .i64 _) ent35 rfl rfl rfl rfl ((ref_covers _ _ _ _ _ _ _ _ _ _ _ _).mono fun v w hp => ?_))
        obtain ⟨rfl, hp⟩ := hp
        replace hst := hst.keepc hp
        clear hp
        refine RunL.cons (Op1.not rfl ?_)
        refine RunL.nil ?_
        refine run_cond_split rfl (fun g10 => ?_) (fun g10 => ?_)
        · skip
          refine run_exit (id := 3) rfl ?_
          refine run_region ?_
          refine RunL.cons (Op1.move (v := .int .i64 _) rfl ?_)
          refine RunL.cons (Op1.addN rfl rfl rfl (wrap_i64 (by omega) (by omega)) ?_)
          refine RunL.cons (Op1.assign (v := .int .i64 _) rfl ?_)
          refine RunL.nil ?_
          refine run_inLoop ?_
          replace hst := hst.toD (L1 := [_])
          exact ih8 (x + 1, F, T) _ w (by (try dsimp only); omega) hst (⟨by (try dsimp only); omega, hI2.no (p := (fun x => coversZ (clampZ ax) (clampZ ay) (clampZ bx) (clampZ by_) (clampZ cx) (clampZ cy) x (y0 + (k : Int)))) (by simpa using g10)⟩) ⟨rfl, rfl, rfl, rfl, rfl, rfl, trivial⟩ ⟨rfl, trivial⟩
        · skip
          refine run_skip ?_
          refine run_seq ?_
          refine run_seq ?_
          refine run_region ?_
          refine RunL.cons (Op1.fieldAddr fld56_1 rfl ?_)
          refine RunL.cons (Op1.load1 (v := .int .i64 _) ty3 rfl rfl (hst.cellL (.head _) rfl) ?_)
          refine RunL.cons (Op1.lss rfl rfl ?_)
          refine RunL.nil ?_
          refine run_cond_dec rfl (fun g11 => ?_) (fun g11 => ?_)
          · skip
            refine run_region ?_
            refine RunL.cons (Op1.move (v := .int .i64 _) rfl ?_)
            refine RunL.cons (Op1.fieldAddr fld56_1 rfl ?_)
            refine RunL.cons (Op1.store (v := .int .i64 _) hst ty3 rfl rfl rfl rfl rfl (.here) (by repeat (first | exact Put.nil | apply Put.put | apply Put.skip)) fun w hst => ?_)
            refine RunL.nil ?_
            refine run_region ?_
            refine RunL.cons (Op1.move (v := .int .i64 _) rfl ?_)
            refine RunL.cons (Op1.addN rfl rfl rfl (wrap_i64 (by omega) (by omega)) ?_)
            refine RunL.cons (Op1.fieldAddr fld56_2 rfl ?_)
            refine RunL.cons (Op1.store (v := .int .i64 _) hst ty3 rfl rfl rfl rfl rfl (.here) (by repeat (first | exact Put.nil | apply Put.put | apply Put.skip)) fun w hst => ?_)
            refine RunL.nil ?_
            refine run_inBlock ?_
            refine run_region ?_
            refine RunL.cons (Op1.move (v := .int .i64 _) rfl ?_)
            refine RunL.cons (Op1.addN rfl rfl rfl (wrap_i64 (by omega) (by omega)) ?_)
            refine RunL.cons (Op1.assign (v := .int .i64 _) rfl ?_)
            refine RunL.nil ?_
            refine run_inLoop ?_
            replace hst := hst.toD (L1 := [_])
            exact ih8 (x + 1, x, x + 1) _ w (by (try dsimp only); omega) hst (⟨by (try dsimp only); omega, hI2.first (p := (fun x => coversZ (clampZ ax) (clampZ ay) (clampZ bx) (clampZ by_) (clampZ cx) (clampZ cy) x (y0 + (k : Int)))) (by omega) (by omega) (by simpa using g10) g11⟩) ⟨rfl, rfl, rfl, rfl, rfl, rfl, trivial⟩ ⟨rfl, trivial⟩
          · skip
            refine run_skip ?_
            refine run_region ?_
            refine RunL.cons (Op1.move (v := .int .i64 _) rfl ?_)
            refine RunL.cons (Op1.addN rfl rfl rfl (wrap_i64 (by omega) (by omega)) ?_)
            refine RunL.cons (Op1.fieldAddr fld56_2 rfl ?_)
            refine RunL.cons (Op1.store (v := .int .i64 _) hst ty3 rfl rfl rfl rfl rfl (.here) (by repeat (first | exact Put.nil | apply Put.put | apply Put.skip)) fun w hst => ?_)
            refine RunL.nil ?_
            refine run_inBlock ?_
            refine run_region ?_
            refine RunL.cons (Op1.move (v := .int .i64 _) rfl ?_)
            refine RunL.cons (Op1.addN rfl rfl rfl (wrap_i64 (by omega) (by omega)) ?_)
            refine RunL.cons (Op1.assign (v := .int .i64 _) rfl ?_)
            refine RunL.nil ?_
            refine run_inLoop ?_
            replace hst := hst.toD (L1 := [_])
            exact ih8 (x + 1, F, x + 1) _ w (by (try dsimp only); omega) hst (⟨by (try dsimp only); omega, hI2.next (p := (fun x => coversZ (clampZ ax) (clampZ ay) (clampZ bx) (clampZ by_) (clampZ cx) (clampZ cy) x (y0 + (k : Int)))) (by omega) (by simpa using g10) g11⟩) ⟨rfl, rfl, rfl, rfl, rfl, rfl, trivial⟩ ⟨rfl, trivial⟩
      · skip
        obtain rfl : x1 = x := by omega
        refine run_exit (id := 2) rfl ?_
        refine run_seq ?_
        refine run_region ?_
        refine RunL.cons (Op1.fieldAddr fld56_1 rfl ?_)
        refine RunL.cons (Op1.load1 (v := .int .i64 _) ty3 rfl rfl (hst.cellL (.head _) rfl) ?_)
        refine RunL.cons (Op1.geq rfl rfl ?_)
        refine RunL.nil ?_
        refine run_cond_dec rfl (fun g12 => ?_) (fun g12 => ?_)
        · skip
          refine run_region ?_
          refine RunL.cons (Op1.move (v := .slice _ _ _) rfl ?_)
          refine RunL.cons (Op1.loadA (vs := [.int .i64 _, .int .i64 _, .int .i64 _]) ty56 rfl rfl rfl (cells_of_obj (n := 3) (hst.objL (.head _)) _ rfl) ?_)
          refine RunL.cons (Op1.buildSl (z0 := [.int .i64 0, .int .i64 0, .int .i64 0]) hst ty50 ty56 rfl rfl (by kernel_rfl) (.cons rfl (v := .agg #[.int .i64 _, .int .i64 _, .int .i64 _]) rfl rfl rfl rfl (by repeat (first | exact Put.nil | apply Put.put | apply Put.skip)) .nil) fun w b63 hst => ?_)
          refine RunL.cons (Op1.append (news := [.int .i64 _, .int .i64 _, .int .i64 _]) hst ty50 ty56 rfl rfl (.there (.there (.here))) rfl rfl rfl (cells_of_obj (n := 3) (hst.objL (.head _)) _ rfl) rfl rfl (by omega) fun w ao13 cp14 hst => ?_)
          refine RunL.cons (Op1.assign (v := .slice _ _ _) rfl ?_)
          refine RunL.nil ?_
          refine run_inBlock ?_
          refine run_region ?_
          refine RunL.cons (Op1.move (v := .int .i64 _) rfl ?_)
          refine RunL.cons (Op1.addN rfl rfl rfl (wrap_i64 (by omega) (by omega)) ?_)
          refine RunL.cons (Op1.assign (v := .int .i64 _) rfl ?_)
          refine RunL.nil ?_
          refine run_inLoop ?_
          have he : rowsZ (fun y x => coversZ (clampZ ax) (clampZ ay) (clampZ bx) (clampZ by_) (clampZ cx) (clampZ cy) x y) x0 x1 y0 (k + 1) = rowsZ (fun y x => coversZ (clampZ ax) (clampZ ay) (clampZ bx) (clampZ by_) (clampZ cx) (clampZ cy) x y) x0 x1 y0 k ++ [(y0 + (k : Int), F, T)] := by rw [rowsZ, hI2.row _ (by omega), if_pos g12]
          have hn : (rowsZ (fun y x => coversZ (clampZ ax) (clampZ ay) (clampZ bx) (clampZ by_) (clampZ cx) (clampZ cy) x y) x0 x1 y0 k).length + 1 = (rowsZ (fun y x => coversZ (clampZ ax) (clampZ ay) (clampZ bx) (clampZ by_) (clampZ cx) (clampZ cy) x y) x0 x1 y0 (k + 1)).length := by rw [he]; simp
          replace hst := hst.pick (.cons (.here) (.cons (.there (.there (.here))) (.cons (.there (.there (.here))) (.cons (.there (.there (.here))) .nil))))
          replace hst := hst.toD (L1 := [_])
          exact ih4 (ao13, cp14, k + 1) _ w (by (try dsimp only); omega) (by (try dsimp only); rw [he, ← Res.sl_snoc]; exact hst) (by (try dsimp only); omega) ⟨rfl, rfl, rfl, trivial⟩ ⟨(congrArg (fun n => Value.slice _ n _) hn), (congrArg (Value.int .i64) (by (try dsimp only); omega)), trivial⟩
        · skip
          refine run_skip ?_
          refine run_inBlock ?_
          refine run_region ?_
          refine RunL.cons (Op1.move (v := .int .i64 _) rfl ?_)
          refine RunL.cons (Op1.addN rfl rfl rfl (wrap_i64 (by omega) (by omega)) ?_)
          refine RunL.cons (Op1.assign (v := .int .i64 _) rfl ?_)
          refine RunL.nil ?_
          refine run_inLoop ?_
          have he : rowsZ (fun y x => coversZ (clampZ ax) (clampZ ay) (clampZ bx) (clampZ by_) (clampZ cx) (clampZ cy) x y) x0 x1 y0 (k + 1) = rowsZ (fun y x => coversZ (clampZ ax) (clampZ ay) (clampZ bx) (clampZ by_) (clampZ cx) (clampZ cy) x y) x0 x1 y0 k := by rw [rowsZ, hI2.row _ (by omega), if_neg g12, List.append_nil]
          have hn : (rowsZ (fun y x => coversZ (clampZ ax) (clampZ ay) (clampZ bx) (clampZ by_) (clampZ cx) (clampZ cy) x y) x0 x1 y0 k).length = (rowsZ (fun y x => coversZ (clampZ ax) (clampZ ay) (clampZ bx) (clampZ by_) (clampZ cx) (clampZ cy) x y) x0 x1 y0 (k + 1)).length := by rw [he]
          replace hst := hst.pick (.cons (.there (.here)) (.cons (.there (.here)) (.cons (.there (.here)) (.cons (.there (.here)) .nil))))
          replace hst := hst.toD (L1 := [_])
          exact ih4 (ao, cap, k + 1) _ w (by (try dsimp only); omega) (by (try dsimp only); rw [he]; exact hst) (by (try dsimp only); omega) ⟨rfl, rfl, rfl, trivial⟩ ⟨(congrArg (fun n => Value.slice _ n _) hn), (congrArg (Value.int .i64) (by (try dsimp only); omega)), trivial⟩
    · skip
      refine run_exit (id := 0) rfl ?_
      refine run_seq ?_
      refine run_region ?_
      refine RunL.cons (Op1.move (v := .slice _ _ _) rfl ?_)
      refine RunL.cons (Op1.assign (v := .slice _ _ _) rfl ?_)
      refine RunL.cons (Op1.assign (v := .int .i64 _) rfl ?_)
      refine RunL.nil ?_
      refine run_ret2 Try.func41 rfl (RV.tmp (v := .slice _ _ _) rfl) (RV.tmp (v := .int .i64 _) rfl) ?_
      replace hst := hst.pick (.cons (.here) .nil)
      obtain rfl : k = (y1 - y0).toNat := by omega
      rw [rows_of_box (by omega) hB, show errZ wd ht = 0 from if_pos (by omega)]
      exact ⟨ao, cap, rfl, hst⟩

end Go.SK
