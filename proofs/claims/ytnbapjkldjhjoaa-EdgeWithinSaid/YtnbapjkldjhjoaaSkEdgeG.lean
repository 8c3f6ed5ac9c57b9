/-
  The walks of the functions of edge and of its reference, and of the laws over them.
-/
import Derived.Test.YtnbapjkldjhjoaaSkFacts1
import Derived.Test.YtnbapjkldjhjoaaSkEdgeA
import Derived.Test.YtnbapjkldjhjoaaSkEdgeC
import Derived.Test.YtnbapjkldjhjoaaSkEdgeD
import Derived.Test.YtnbapjkldjhjoaaSkEdgeE
import Derived.Test.YtnbapjkldjhjoaaSkEdgeF
import Derived.Test.YtnbapjkldjhjoaaSkJ
set_option linter.unusedVariables false
set_option linter.unusedSimpArgs false
namespace Go.SK
open Go Go.Proofs
open Go.RowKit
theorem clamp_mid {x : Int} (h : -32768 ≤ x) (h2 : x ≤ 32767) : clampZ x = x := by unfold clampZ; omega
theorem edge_side_mid (ax ay az bx by_ bz x y z : Int) (w : World) (h : ¬ (x < 0 ∨ y < 0 ∨ 1024 ≤ x ∨ 1024 ≤ y)) :
    Ret Try.prog 27 #[.agg #[.int .i32 ax, .int .i32 ay, .int .i32 az], .agg #[.int .i32 bx, .int .i32 by_, .int .i32 bz], .agg #[.int .i32 (16 * x + 8), .int .i32 (16 * y + 8), .int .i32 z]] w fun v w' => v = .int .i64 (sideZ (clampZ ax) (clampZ ay) (clampZ bx) (clampZ by_) (16 * x + 8) (16 * y + 8)) ∧ St w NoM [] [] w' := by
  have t := edge_side ax ay az bx by_ bz (16 * x + 8) (16 * y + 8) z w
  rwa [clamp_mid (x := 16 * x + 8) (by omega) (by omega), clamp_mid (x := 16 * y + 8) (by omega) (by omega)] at t
theorem within_in {ax ay bx by_ cx cy x y : Int} (h : ¬ (x < 0 ∨ y < 0 ∨ 1024 ≤ x ∨ 1024 ≤ y)) (hA : 0 < sideZ ax ay bx by_ cx cy) (h1 : 0 < sideZ ax ay bx by_ (16 * x + 8) (16 * y + 8)) (h2 : 0 < sideZ bx by_ cx cy (16 * x + 8) (16 * y + 8)) (h3 : 0 < sideZ cx cy ax ay (16 * x + 8) (16 * y + 8)) : coversZ ax ay bx by_ cx cy x y = true := by
  rw [coversZ_in h (by omega), if_neg (by omega), in3, inZ_pos (by omega) (by omega), inZ_pos (by omega) (by omega), inZ_pos (by omega) (by omega)]; rfl
theorem within_out {ax ay bx by_ cx cy x y : Int} (h : ¬ (x < 0 ∨ y < 0 ∨ 1024 ≤ x ∨ 1024 ≤ y)) (hA : 0 < sideZ ax ay bx by_ cx cy) (h1 : sideZ ax ay bx by_ (16 * x + 8) (16 * y + 8) < 0 ∨ sideZ bx by_ cx cy (16 * x + 8) (16 * y + 8) < 0 ∨ sideZ cx cy ax ay (16 * x + 8) (16 * y + 8) < 0) : coversZ ax ay bx by_ cx cy x y = false := by
  rw [coversZ_in h (by omega), if_neg (by omega), in3]
  rcases h1 with h1 | h1 | h1 <;> rw [inZ_neg h1] <;> simp
abbrev OutP (x y : Int) : Prop := x < 0 ∨ y < 0 ∨ 1024 ≤ x ∨ 1024 ≤ y
theorem law_EdgeShared (ax ay az bx by_ bz cx cy cz dx dy dz x y : Int) (w : World) : Ret Try.prog 10 #[.agg #[.int .i32 ax, .int .i32 ay, .int .i32 az, .int .i32 bx, .int .i32 by_, .int .i32 bz, .int .i32 cx, .int .i32 cy, .int .i32 cz, .int .i32 dx, .int .i32 dy, .int .i32 dz], .int .i64 x, .int .i64 y] w (fun v w' => v = .bool true ∧ St w NoM [] [] w') := by
  refine Ret.enter (args := [.agg #[.int .i32 ax, .int .i32 ay, .int .i32 az, .int .i32 bx, .int .i32 by_, .int .i32 bz, .int .i32 cx, .int .i32 cy, .int .i32 cz, .int .i32 dx, .int .i32 dy, .int .i32 dz], .int .i64 x, .int .i64 y]) Try.func10 rfl rfl rfl ?_
  have hst := St.init w
  have hax := clampZ_bd ax
  have hay := clampZ_bd ay
  have hbx := clampZ_bd bx
  have hby := clampZ_bd by_
  refine run_seq ?_
  refine run_region ?_
  refine RunL.cons (Op1.box (v := .agg #[.int .i32 _, .int .i32 _, .int .i32 _, .int .i32 _, .int .i32 _, .int .i32 _, .int .i32 _, .int .i32 _, .int .i32 _, .int .i32 _, .int .i32 _, .int .i32 _]) hst rfl rfl fun w b3 hst => ?_)
  refine RunL.cons (Op1.assign (v := .bool _) rfl ?_)
  refine RunL.nil ?_
  refine run_seq ?_
  refine run_seq ?_
  refine run_region ?_
  refine RunL.cons (Op1.call0  ent36 rfl  ((law27_whole _).mono fun v w hp => ?_))
  obtain ⟨rfl, hp⟩ := hp
  replace hst := hst.keepc hp
  clear hp
  refine RunL.cons (Op1.not rfl ?_)
  refine RunL.nil ?_
  refine run_cond_split rfl (fun g1 => ?_) (fun g1 => ?_)
  · skip
    exfalso
    cases g1
  · skip
    refine run_skip ?_
    refine run_seq ?_
    refine run_region ?_
    refine RunL.cons (Op1.fieldAddr fld43_0 rfl ?_)
    refine RunL.cons (Op1.loadA (vs := [.int .i32 _, .int .i32 _, .int .i32 _]) ty25 rfl rfl rfl (cells_of_obj (n := 3) (hst.objL (.head _)) _ rfl) ?_)
    refine RunL.cons (Op1.fieldAddr fld43_1 rfl ?_)
    refine RunL.cons (Op1.loadA (vs := [.int .i32 _, .int .i32 _, .int .i32 _]) ty25 rfl rfl rfl (cells_of_obj (n := 3) (hst.objL (.head _)) _ rfl) ?_)
    refine RunL.cons (Op1.fieldAddr fld43_2 rfl ?_)
    refine RunL.cons (Op1.loadA (vs := [.int .i32 _, .int .i32 _, .int .i32 _]) ty25 rfl rfl rfl (cells_of_obj (n := 3) (hst.objL (.head _)) _ rfl) ?_)
    refine RunL.cons (Op1.buildArr ty27 ty25 (.cons rfl (v := .agg #[.int .i32 _, .int .i32 _, .int .i32 _]) rfl rfl rfl rfl (by repeat (first | exact Put.nil | apply Put.put | apply Put.skip)) (.cons rfl (v := .agg #[.int .i32 _, .int .i32 _, .int .i32 _]) rfl rfl rfl rfl (by repeat (first | exact Put.nil | apply Put.put | apply Put.skip)) (.cons rfl (v := .agg #[.int .i32 _, .int .i32 _, .int .i32 _]) rfl rfl rfl rfl (by repeat (first | exact Put.nil | apply Put.put | apply Put.skip)) .nil))) ?_)
    refine RunL.cons (Op1.alloc hst ty27 fun w b7 hst => ?_)
    refine RunL.cons (Op1.store (v := .agg #[.int .i32 _, .int .i32 _, .int .i32 _, .int .i32 _, .int .i32 _, .int .i32 _, .int .i32 _, .int .i32 _, .int .i32 _]) hst ty27 rfl rfl rfl rfl rfl (.here) (by repeat (first | exact Put.nil | apply Put.put | apply Put.skip)) fun w hst => ?_)
    refine RunL.nil ?_
    refine run_seq ?_
    refine run_region ?_
    refine RunL.cons (Op1.fieldAddr fld43_1 rfl ?_)
    refine RunL.cons (Op1.loadA (vs := [.int .i32 _, .int .i32 _, .int .i32 _]) ty25 rfl rfl rfl (cells_of_obj (n := 3) (hst.objL (.tail _ (.head _))) _ rfl) ?_)
    refine RunL.cons (Op1.fieldAddr fld43_0 rfl ?_)
    refine RunL.cons (Op1.loadA (vs := [.int .i32 _, .int .i32 _, .int .i32 _]) ty25 rfl rfl rfl (cells_of_obj (n := 3) (hst.objL (.tail _ (.head _))) _ rfl) ?_)
    refine RunL.cons (Op1.fieldAddr fld43_3 rfl ?_)
    refine RunL.cons (Op1.loadA (vs := [.int .i32 _, .int .i32 _, .int .i32 _]) ty25 rfl rfl rfl (cells_of_obj (n := 3) (hst.objL (.tail _ (.head _))) _ rfl) ?_)
    refine RunL.cons (Op1.buildArr ty27 ty25 (.cons rfl (v := .agg #[.int .i32 _, .int .i32 _, .int .i32 _]) rfl rfl rfl rfl (by repeat (first | exact Put.nil | apply Put.put | apply Put.skip)) (.cons rfl (v := .agg #[.int .i32 _, .int .i32 _, .int .i32 _]) rfl rfl rfl rfl (by repeat (first | exact Put.nil | apply Put.put | apply Put.skip)) (.cons rfl (v := .agg #[.int .i32 _, .int .i32 _, .int .i32 _]) rfl rfl rfl rfl (by repeat (first | exact Put.nil | apply Put.put | apply Put.skip)) .nil))) ?_)
    refine RunL.cons (Op1.alloc hst ty27 fun w b8 hst => ?_)
    refine RunL.cons (Op1.store (v := .agg #[.int .i32 _, .int .i32 _, .int .i32 _, .int .i32 _, .int .i32 _, .int .i32 _, .int .i32 _, .int .i32 _, .int .i32 _]) hst ty27 rfl rfl rfl rfl rfl (.here) (by repeat (first | exact Put.nil | apply Put.put | apply Put.skip)) fun w hst => ?_)
    refine RunL.nil ?_
    refine run_seq ?_
    refine run_region ?_
    refine RunL.cons (Op1.fieldAddr fld43_0 rfl ?_)
    refine RunL.cons (Op1.loadA (vs := [.int .i32 _, .int .i32 _, .int .i32 _]) ty25 rfl rfl rfl (cells_of_obj (n := 3) (hst.objL (.tail _ (.tail _ (.head _)))) _ rfl) ?_)
    refine RunL.cons (Op1.fieldAddr fld43_1 rfl ?_)
    refine RunL.cons (Op1.loadA (vs := [.int .i32 _, .int .i32 _, .int .i32 _]) ty25 rfl rfl rfl (cells_of_obj (n := 3) (hst.objL (.tail _ (.tail _ (.head _)))) _ rfl) ?_)
    refine RunL.cons (Op1.fieldAddr fld43_2 rfl ?_)
    refine RunL.cons (Op1.loadA (vs := [.int .i32 _, .int .i32 _, .int .i32 _]) ty25 rfl rfl rfl (cells_of_obj (n := 3) (hst.objL (.tail _ (.tail _ (.head _)))) _ rfl) ?_)
    refine RunL.cons (Op1.call3 (v1 := .agg #[.int .i32 _, .int .i32 _, .int .i32 _]) (v2 := .agg #[.int .i32 _, .int .i32 _, .int .i32 _]) (v3 := .agg #[.int .i32 _, .int .i32 _, .int .i32 _]) ent27 rfl rfl rfl rfl ((edge_side _ _ _ _ _ _ _ _ _ _).mono fun v w hp => ?_))
    obtain ⟨rfl, hp⟩ := hp
    replace hst := hst.keepc hp
    clear hp
    refine RunL.cons (Op1.assign (v := .int .i64 _) rfl ?_)
    refine RunL.nil ?_
    refine run_seq ?_
    refine run_region ?_
    refine RunL.cons (Op1.fieldAddr fld43_0 rfl ?_)
    refine RunL.cons (Op1.loadA (vs := [.int .i32 _, .int .i32 _, .int .i32 _]) ty25 rfl rfl rfl (cells_of_obj (n := 3) (hst.objL (.tail _ (.tail _ (.head _)))) _ rfl) ?_)
    refine RunL.cons (Op1.fieldAddr fld43_1 rfl ?_)
    refine RunL.cons (Op1.loadA (vs := [.int .i32 _, .int .i32 _, .int .i32 _]) ty25 rfl rfl rfl (cells_of_obj (n := 3) (hst.objL (.tail _ (.tail _ (.head _)))) _ rfl) ?_)
    refine RunL.cons (Op1.fieldAddr fld43_3 rfl ?_)
    refine RunL.cons (Op1.loadA (vs := [.int .i32 _, .int .i32 _, .int .i32 _]) ty25 rfl rfl rfl (cells_of_obj (n := 3) (hst.objL (.tail _ (.tail _ (.head _)))) _ rfl) ?_)
    refine RunL.cons (Op1.call3 (v1 := .agg #[.int .i32 _, .int .i32 _, .int .i32 _]) (v2 := .agg #[.int .i32 _, .int .i32 _, .int .i32 _]) (v3 := .agg #[.int .i32 _, .int .i32 _, .int .i32 _]) ent27 rfl rfl rfl rfl ((edge_side _ _ _ _ _ _ _ _ _ _).mono fun v w hp => ?_))
    obtain ⟨rfl, hp⟩ := hp
    replace hst := hst.keepc hp
    clear hp
    refine RunL.cons (Op1.assign (v := .int .i64 _) rfl ?_)
    refine RunL.nil ?_
    refine run_seq ?_
    refine Run.cutC hst [1, 2, 3, 7, 8] ((sideZ (clampZ ax) (clampZ ay) (clampZ bx) (clampZ by_) (clampZ cx) (clampZ cy) < 0 ∧ 0 < sideZ (clampZ ax) (clampZ ay) (clampZ bx) (clampZ by_) (clampZ dx) (clampZ dy)) ∨ (0 < sideZ (clampZ ax) (clampZ ay) (clampZ bx) (clampZ by_) (clampZ cx) (clampZ cy) ∧ sideZ (clampZ ax) (clampZ ay) (clampZ bx) (clampZ by_) (clampZ dx) (clampZ dy) < 0)) (fun f w kf4 hst hJ3 => ?_) (fun cut2 => ?_)
    · skip
      refine Run.slots (sl := [(1, .int .i64 _), (2, .int .i64 _), (3, .pointer (some ⟨_, _, none⟩)), (7, .pointer (some ⟨_, _, none⟩)), (8, .pointer (some ⟨_, _, none⟩))]) ⟨(kf4.get 1 rfl).trans rfl, (kf4.get 2 rfl).trans rfl, (kf4.get 3 rfl).trans rfl, (kf4.get 7 rfl).trans rfl, (kf4.get 8 rfl).trans rfl, trivial⟩ ?_
      refine run_seq ?_
      refine run_region ?_
      refine RunL.cons (Op1.loadA (vs := [.int .i32 _, .int .i32 _, .int .i32 _, .int .i32 _, .int .i32 _, .int .i32 _, .int .i32 _, .int .i32 _, .int .i32 _]) ty27 rfl rfl rfl (cells_of_obj (n := 9) (hst.objL (.tail _ (.head _))) _ rfl) ?_)
      refine RunL.cons (Op1.move (v := .int .i64 _) rfl ?_)
      refine RunL.cons (Op1.move (v := .int .i64 _) rfl ?_)
      refine RunL.cons (Op1.call3 (v1 := .agg #[.int .i32 _, .int .i32 _, .int .i32 _, .int .i32 _, .int .i32 _, .int .i32 _, .int .i32 _, .int .i32 _, .int .i32 _]) (v2 := .int .i64 _) (v3 := .int .i64 _) ent34 rfl rfl rfl rfl ((edge_covers _ _ _ _ _ _ _ _ _ _ _ _).mono fun v w hp => ?_))
      obtain ⟨rfl, hp⟩ := hp
      replace hst := hst.keepc hp
      clear hp
      refine RunL.cons (Op1.assign (v := .bool _) rfl ?_)
      refine RunL.nil ?_
      refine run_seq ?_
      refine run_region ?_
      refine RunL.cons (Op1.loadA (vs := [.int .i32 _, .int .i32 _, .int .i32 _, .int .i32 _, .int .i32 _, .int .i32 _, .int .i32 _, .int .i32 _, .int .i32 _]) ty27 rfl rfl rfl (cells_of_obj (n := 9) (hst.objL (.head _)) _ rfl) ?_)
      refine RunL.cons (Op1.move (v := .int .i64 _) rfl ?_)
      refine RunL.cons (Op1.move (v := .int .i64 _) rfl ?_)
      refine RunL.cons (Op1.call3 (v1 := .agg #[.int .i32 _, .int .i32 _, .int .i32 _, .int .i32 _, .int .i32 _, .int .i32 _, .int .i32 _, .int .i32 _, .int .i32 _]) (v2 := .int .i64 _) (v3 := .int .i64 _) ent34 rfl rfl rfl rfl ((edge_covers _ _ _ _ _ _ _ _ _ _ _ _).mono fun v w hp => ?_))
      obtain ⟨rfl, hp⟩ := hp
      replace hst := hst.keepc hp
      clear hp
      refine RunL.cons (Op1.assign (v := .bool _) rfl ?_)
      refine RunL.nil ?_
      refine run_seq ?_
      refine Run.cutC hst [1, 2, 3, 11, 12] (True) (fun f w kf7 hst hJ6 => ?_) (fun cut5 => ?_)
      · skip
        refine Run.slots (sl := [(1, .int .i64 _), (2, .int .i64 _), (3, .pointer (some ⟨_, _, none⟩)), (11, .bool _), (12, .bool _)]) ⟨(kf7.get 1 rfl).trans rfl, (kf7.get 2 rfl).trans rfl, (kf7.get 3 rfl).trans rfl, (kf7.get 11 rfl).trans rfl, (kf7.get 12 rfl).trans rfl, trivial⟩ ?_
        refine run_seq ?_
        refine Run.cutC hst [1, 2, 3, 11, 12] (¬ (x < 0 ∨ y < 0 ∨ 1024 ≤ x ∨ 1024 ≤ y)) (fun f w kf10 hst hJ9 => ?_) (fun cut8 => ?_)
        · skip
          refine Run.slots (sl := [(1, .int .i64 _), (2, .int .i64 _), (3, .pointer (some ⟨_, _, none⟩)), (11, .bool _), (12, .bool _)]) ⟨(kf10.get 1 rfl).trans rfl, (kf10.get 2 rfl).trans rfl, (kf10.get 3 rfl).trans rfl, (kf10.get 11 rfl).trans rfl, (kf10.get 12 rfl).trans rfl, trivial⟩ ?_
          refine run_seq ?_
          refine run_region ?_
          refine RunL.cons (Op1.move (v := .int .i64 _) rfl ?_)
          first | refine RunL.cons (Op1.mulN rfl rfl rfl (wrap_i64 (by omega) (by omega)) ?_) | refine RunL.cons (Op1.mulB rfl rfl (by omega) (by omega) (by omega) (by omega) (fun hm11 hm12 => ?_))
          refine RunL.cons (Op1.addN rfl rfl rfl (wrap_i64 (by omega) (by omega)) ?_)
          first | refine RunL.cons (Op1.convN ty3 ty21 rfl (wrap_i32 (by omega) (by omega)) ?_) | refine RunL.cons (Op1.conv ty3 ty21 rfl ?_)
          refine RunL.cons (Op1.move (v := .int .i64 _) rfl ?_)
          first | refine RunL.cons (Op1.mulN rfl rfl rfl (wrap_i64 (by omega) (by omega)) ?_) | refine RunL.cons (Op1.mulB rfl rfl (by omega) (by omega) (by omega) (by omega) (fun hm13 hm14 => ?_))
          refine RunL.cons (Op1.addN rfl rfl rfl (wrap_i64 (by omega) (by omega)) ?_)
          first | refine RunL.cons (Op1.convN ty3 ty21 rfl (wrap_i32 (by omega) (by omega)) ?_) | refine RunL.cons (Op1.conv ty3 ty21 rfl ?_)
          refine RunL.cons (Op1.buildStruct ty25 stf25 (.cons rfl (v := .int .i32 _) rfl rfl rfl rfl (by repeat (first | exact Put.nil | apply Put.put | apply Put.skip)) (.cons rfl (v := .int .i32 _) rfl rfl rfl rfl (by repeat (first | exact Put.nil | apply Put.put | apply Put.skip)) .nil)) ?_)
          refine RunL.cons (Op1.alloc hst ty25 fun w b13 hst => ?_)
          refine RunL.cons (Op1.store (v := .agg #[.int .i32 _, .int .i32 _, .int .i32 _]) hst ty25 rfl rfl rfl rfl rfl (.here) (by repeat (first | exact Put.nil | apply Put.put | apply Put.skip)) fun w hst => ?_)
          refine RunL.nil ?_
          refine run_seq ?_
          refine run_region ?_
          refine RunL.cons (Op1.fieldAddr fld43_0 rfl ?_)
          refine RunL.cons (Op1.fieldAddr fld25_0 rfl ?_)
          refine RunL.cons (Op1.load1 (v := .int .i32 _) ty21 rfl rfl (hst.cellL (.tail _ (.tail _ (.tail _ (.head _)))) rfl) ?_)
          refine RunL.cons (Op1.call1 (v1 := .int .i32 _) ent25 rfl rfl ((edge_clamp _ _).mono fun v w hp => ?_))
          obtain ⟨rfl, hp⟩ := hp
          replace hst := hst.keepc hp
          clear hp
          first | refine RunL.cons (Op1.convN ty21 ty2 rfl (wrap_i64 (by omega) (by omega)) ?_) | refine RunL.cons (Op1.conv ty21 ty2 rfl ?_)
          refine RunL.cons (Op1.assign (v := .int .i64 _) rfl ?_)
          refine RunL.nil ?_
          refine run_seq ?_
          refine run_region ?_
          refine RunL.cons (Op1.fieldAddr fld43_0 rfl ?_)
          refine RunL.cons (Op1.fieldAddr fld25_1 rfl ?_)
          refine RunL.cons (Op1.load1 (v := .int .i32 _) ty21 rfl rfl (hst.cellL (.tail _ (.tail _ (.tail _ (.head _)))) rfl) ?_)
          refine RunL.cons (Op1.call1 (v1 := .int .i32 _) ent25 rfl rfl ((edge_clamp _ _).mono fun v w hp => ?_))
          obtain ⟨rfl, hp⟩ := hp
          replace hst := hst.keepc hp
          clear hp
          first | refine RunL.cons (Op1.convN ty21 ty2 rfl (wrap_i64 (by omega) (by omega)) ?_) | refine RunL.cons (Op1.conv ty21 ty2 rfl ?_)
          refine RunL.cons (Op1.assign (v := .int .i64 _) rfl ?_)
          refine RunL.nil ?_
          refine run_seq ?_
          refine run_region ?_
          refine RunL.cons (Op1.fieldAddr fld43_1 rfl ?_)
          refine RunL.cons (Op1.fieldAddr fld25_0 rfl ?_)
          refine RunL.cons (Op1.load1 (v := .int .i32 _) ty21 rfl rfl (hst.cellL (.tail _ (.tail _ (.tail _ (.head _)))) rfl) ?_)
          refine RunL.cons (Op1.call1 (v1 := .int .i32 _) ent25 rfl rfl ((edge_clamp _ _).mono fun v w hp => ?_))
          obtain ⟨rfl, hp⟩ := hp
          replace hst := hst.keepc hp
          clear hp
          first | refine RunL.cons (Op1.convN ty21 ty2 rfl (wrap_i64 (by omega) (by omega)) ?_) | refine RunL.cons (Op1.conv ty21 ty2 rfl ?_)
          refine RunL.cons (Op1.assign (v := .int .i64 _) rfl ?_)
          refine RunL.nil ?_
          refine run_seq ?_
          refine run_region ?_
          refine RunL.cons (Op1.fieldAddr fld43_1 rfl ?_)
          refine RunL.cons (Op1.fieldAddr fld25_1 rfl ?_)
          refine RunL.cons (Op1.load1 (v := .int .i32 _) ty21 rfl rfl (hst.cellL (.tail _ (.tail _ (.tail _ (.head _)))) rfl) ?_)
          refine RunL.cons (Op1.call1 (v1 := .int .i32 _) ent25 rfl rfl ((edge_clamp _ _).mono fun v w hp => ?_))
          obtain ⟨rfl, hp⟩ := hp
          replace hst := hst.keepc hp
          clear hp
          first | refine RunL.cons (Op1.convN ty21 ty2 rfl (wrap_i64 (by omega) (by omega)) ?_) | refine RunL.cons (Op1.conv ty21 ty2 rfl ?_)
          refine RunL.cons (Op1.assign (v := .int .i64 _) rfl ?_)
          refine RunL.nil ?_
          refine run_seq ?_
          refine run_region ?_
          refine RunL.cons (Op1.fieldAddr fld25_0 rfl ?_)
          refine RunL.cons (Op1.load1 (v := .int .i32 _) ty21 rfl rfl (hst.cellL (.head _) rfl) ?_)
          first | refine RunL.cons (Op1.convN ty21 ty2 rfl (wrap_i64 (by omega) (by omega)) ?_) | refine RunL.cons (Op1.conv ty21 ty2 rfl ?_)
          refine RunL.cons (Op1.assign (v := .int .i64 _) rfl ?_)
          refine RunL.nil ?_
          refine run_seq ?_
          refine run_region ?_
          refine RunL.cons (Op1.fieldAddr fld25_1 rfl ?_)
          refine RunL.cons (Op1.load1 (v := .int .i32 _) ty21 rfl rfl (hst.cellL (.head _) rfl) ?_)
          first | refine RunL.cons (Op1.convN ty21 ty2 rfl (wrap_i64 (by omega) (by omega)) ?_) | refine RunL.cons (Op1.conv ty21 ty2 rfl ?_)
          refine RunL.cons (Op1.assign (v := .int .i64 _) rfl ?_)
          refine RunL.nil ?_
          refine run_seq ?_
          refine Run.cutC hst [11, 12] (OnE (clampZ ax) (clampZ ay) (clampZ bx) (clampZ by_) (16 * x + 8) (16 * y + 8)) (fun f w kf17 hst hJ16 => ?_) (fun cut15 => ?_)
          · skip
            refine Run.slots (sl := [(11, .bool _), (12, .bool _)]) ⟨(kf17.get 11 rfl).trans rfl, (kf17.get 12 rfl).trans rfl, trivial⟩ ?_
            refine run_seq ?_
            refine run_region ?_
            refine RunL.cons (Op1.move (v := .bool _) rfl ?_)
            refine RunL.cons (Op1.move (v := .bool _) rfl ?_)
            refine RunL.cons (Op1.neqB ty4 rfl rfl ?_)
            refine RunL.cons (Op1.assign (v := .bool _) rfl ?_)
            refine RunL.nil ?_
            refine run_ret1 Try.func10 rfl (RV.tmp (v := .bool _) rfl) ?_
            exact ⟨congrArg Value.bool (shared_one hJ9 hJ16 hJ3), hst.pure⟩
          · skip
            refine run_seq ?_
            refine run_region ?_
            refine RunL.cons (Op1.fieldAddr fld43_0 rfl ?_)
            refine RunL.cons (Op1.loadA (vs := [.int .i32 _, .int .i32 _, .int .i32 _]) ty25 rfl rfl rfl (cells_of_obj (n := 3) (hst.objL (.tail _ (.tail _ (.tail _ (.head _))))) _ rfl) ?_)
            refine RunL.cons (Op1.fieldAddr fld43_1 rfl ?_)
            refine RunL.cons (Op1.loadA (vs := [.int .i32 _, .int .i32 _, .int .i32 _]) ty25 rfl rfl rfl (cells_of_obj (n := 3) (hst.objL (.tail _ (.tail _ (.tail _ (.head _))))) _ rfl) ?_)
            refine RunL.cons (Op1.loadA (vs := [.int .i32 _, .int .i32 _, .int .i32 _]) ty25 rfl rfl rfl (cells_of_obj (n := 3) (hst.objL (.head _)) _ rfl) ?_)
            refine RunL.cons (Op1.call3 (v1 := .agg #[.int .i32 _, .int .i32 _, .int .i32 _]) (v2 := .agg #[.int .i32 _, .int .i32 _, .int .i32 _]) (v3 := .agg #[.int .i32 _, .int .i32 _, .int .i32 _]) ent27 rfl rfl rfl rfl ((edge_side_mid _ _ _ _ _ _ _ _ _ _ hJ9).mono fun v w hp => ?_))
            obtain ⟨rfl, hp⟩ := hp
            replace hst := hst.keepc hp
            clear hp
            refine RunL.cons (Op1.neq rfl rfl ?_)
            refine RunL.cons (Op1.move (v := .bool _) rfl ?_)
            refine RunL.splitD (d := 139) rfl (fun g18 => ?_) (fun g18 => ?_)
            · skip
              refine RunL.omit (t := 139) rfl (congrArg Value.bool (decide_eq_true g18)) rfl ?_
              refine RunL.omit (t := 139) rfl (congrArg Value.bool (decide_eq_true g18)) rfl ?_
              refine RunL.omit (t := 139) rfl (congrArg Value.bool (decide_eq_true g18)) rfl ?_
              refine RunL.omit (t := 139) rfl (congrArg Value.bool (decide_eq_true g18)) rfl ?_
              refine RunL.omit (t := 139) rfl (congrArg Value.bool (decide_eq_true g18)) rfl ?_
              refine RunL.cons (Op1.pickT (u := .bool _) (congrArg Value.bool (decide_eq_true g18)) rfl ?_)
              refine RunL.cons (Op1.move (v := .bool _) rfl ?_)
              refine RunL.omit (t := 146) rfl (congrArg Value.bool (rfl : true = _)) rfl ?_
              refine RunL.omit (t := 146) rfl (congrArg Value.bool (rfl : true = _)) rfl ?_
              refine RunL.omit (t := 146) rfl (congrArg Value.bool (rfl : true = _)) rfl ?_
              refine RunL.omit (t := 146) rfl (congrArg Value.bool (rfl : true = _)) rfl ?_
              refine RunL.omit (t := 146) rfl (congrArg Value.bool (rfl : true = _)) rfl ?_
              refine RunL.cons (Op1.pickT (u := .bool _) (congrArg Value.bool (rfl : true = _)) rfl ?_)
              refine RunL.cons (Op1.move (v := .bool _) rfl ?_)
              refine RunL.omit (t := 153) rfl (congrArg Value.bool (rfl : true = _)) rfl ?_
              refine RunL.omit (t := 153) rfl (congrArg Value.bool (rfl : true = _)) rfl ?_
              refine RunL.omit (t := 153) rfl (congrArg Value.bool (rfl : true = _)) rfl ?_
              refine RunL.omit (t := 153) rfl (congrArg Value.bool (rfl : true = _)) rfl ?_
              refine RunL.omitU (t := 157) rfl rfl ?_
              refine RunL.omitU (t := 157) rfl rfl ?_
              refine RunL.omitU (t := 157) rfl rfl ?_
              refine RunL.omit (t := 153) rfl (congrArg Value.bool (rfl : true = _)) rfl ?_
              refine RunL.cons (Op1.pickT (u := .bool _) (congrArg Value.bool (rfl : true = _)) rfl ?_)
              refine RunL.cons (Op1.move (v := .bool _) rfl ?_)
              refine RunL.omit (t := 163) rfl (congrArg Value.bool (rfl : true = _)) rfl ?_
              refine RunL.omit (t := 163) rfl (congrArg Value.bool (rfl : true = _)) rfl ?_
              refine RunL.omit (t := 163) rfl (congrArg Value.bool (rfl : true = _)) rfl ?_
              refine RunL.omit (t := 163) rfl (congrArg Value.bool (rfl : true = _)) rfl ?_
              refine RunL.omitU (t := 167) rfl rfl ?_
              refine RunL.omitU (t := 167) rfl rfl ?_
              refine RunL.omitU (t := 167) rfl rfl ?_
              refine RunL.omit (t := 163) rfl (congrArg Value.bool (rfl : true = _)) rfl ?_
              refine RunL.cons (Op1.pickT (u := .bool _) (congrArg Value.bool (rfl : true = _)) rfl ?_)
              refine RunL.nil ?_
              refine run_cond_true (congrArg Value.bool (rfl : true = _)) ?_
              refine run_seq ?_
              refine run_region ?_
              refine RunL.cons (Op1.assign (v := .bool _) rfl ?_)
              refine RunL.nil ?_
              refine run_ret1 Try.func10 rfl (RV.tmp (v := .bool _) rfl) ?_
              exact ⟨rfl, hst.pure⟩
            · skip
              refine RunL.take (t := 139) rfl (congrArg Value.bool (decide_eq_false g18)) (Op1.move (v := .int .i64 _) rfl ?_)
              refine RunL.take (t := 139) rfl (congrArg Value.bool (decide_eq_false g18)) (Op1.move (v := .int .i64 _) rfl ?_)
              refine RunL.take (t := 139) rfl (congrArg Value.bool (decide_eq_false g18)) (Op1.move (v := .int .i64 _) rfl ?_)
              refine RunL.take (t := 139) rfl (congrArg Value.bool (decide_eq_false g18)) (Op1.call3 (v1 := .int .i64 _) (v2 := .int .i64 _) (v3 := .int .i64 _) ent37 rfl rfl rfl rfl ((law27_between _ _ _ _).mono fun v w hp => ?_))
              obtain ⟨rfl, hp⟩ := hp
              replace hst := hst.keepc hp
              clear hp
              refine RunL.take (t := 139) rfl (congrArg Value.bool (decide_eq_false g18)) (Op1.not rfl ?_)
              refine RunL.cons (Op1.pickF (u := .bool _) (congrArg Value.bool (decide_eq_false g18)) rfl ?_)
              refine RunL.cons (Op1.move (v := .bool _) rfl ?_)
              refine RunL.split (d := 146) rfl (fun g19 => ?_) (fun g19 => ?_)
              · skip
                refine RunL.omit (t := 146) rfl (congrArg Value.bool g19) rfl ?_
                refine RunL.omit (t := 146) rfl (congrArg Value.bool g19) rfl ?_
                refine RunL.omit (t := 146) rfl (congrArg Value.bool g19) rfl ?_
                refine RunL.omit (t := 146) rfl (congrArg Value.bool g19) rfl ?_
                refine RunL.omit (t := 146) rfl (congrArg Value.bool g19) rfl ?_
                refine RunL.cons (Op1.pickT (u := .bool _) (congrArg Value.bool g19) rfl ?_)
                refine RunL.cons (Op1.move (v := .bool _) rfl ?_)
                refine RunL.omit (t := 153) rfl (congrArg Value.bool (rfl : true = _)) rfl ?_
                refine RunL.omit (t := 153) rfl (congrArg Value.bool (rfl : true = _)) rfl ?_
                refine RunL.omit (t := 153) rfl (congrArg Value.bool (rfl : true = _)) rfl ?_
                refine RunL.omit (t := 153) rfl (congrArg Value.bool (rfl : true = _)) rfl ?_
                refine RunL.omitU (t := 157) rfl rfl ?_
                refine RunL.omitU (t := 157) rfl rfl ?_
                refine RunL.omitU (t := 157) rfl rfl ?_
                refine RunL.omit (t := 153) rfl (congrArg Value.bool (rfl : true = _)) rfl ?_
                refine RunL.cons (Op1.pickT (u := .bool _) (congrArg Value.bool (rfl : true = _)) rfl ?_)
                refine RunL.cons (Op1.move (v := .bool _) rfl ?_)
                refine RunL.omit (t := 163) rfl (congrArg Value.bool (rfl : true = _)) rfl ?_
                refine RunL.omit (t := 163) rfl (congrArg Value.bool (rfl : true = _)) rfl ?_
                refine RunL.omit (t := 163) rfl (congrArg Value.bool (rfl : true = _)) rfl ?_
                refine RunL.omit (t := 163) rfl (congrArg Value.bool (rfl : true = _)) rfl ?_
                refine RunL.omitU (t := 167) rfl rfl ?_
                refine RunL.omitU (t := 167) rfl rfl ?_
                refine RunL.omitU (t := 167) rfl rfl ?_
                refine RunL.omit (t := 163) rfl (congrArg Value.bool (rfl : true = _)) rfl ?_
                refine RunL.cons (Op1.pickT (u := .bool _) (congrArg Value.bool (rfl : true = _)) rfl ?_)
                refine RunL.nil ?_
                refine run_cond_true (congrArg Value.bool (rfl : true = _)) ?_
                refine run_seq ?_
                refine run_region ?_
                refine RunL.cons (Op1.assign (v := .bool _) rfl ?_)
                refine RunL.nil ?_
                refine run_ret1 Try.func10 rfl (RV.tmp (v := .bool _) rfl) ?_
                exact ⟨rfl, hst.pure⟩
              · skip
                refine RunL.take (t := 146) rfl (congrArg Value.bool g19) (Op1.move (v := .int .i64 _) rfl ?_)
                refine RunL.take (t := 146) rfl (congrArg Value.bool g19) (Op1.move (v := .int .i64 _) rfl ?_)
                refine RunL.take (t := 146) rfl (congrArg Value.bool g19) (Op1.move (v := .int .i64 _) rfl ?_)
                refine RunL.take (t := 146) rfl (congrArg Value.bool g19) (Op1.call3 (v1 := .int .i64 _) (v2 := .int .i64 _) (v3 := .int .i64 _) ent37 rfl rfl rfl rfl ((law27_between _ _ _ _).mono fun v w hp => ?_))
                obtain ⟨rfl, hp⟩ := hp
                replace hst := hst.keepc hp
                clear hp
                refine RunL.take (t := 146) rfl (congrArg Value.bool g19) (Op1.not rfl ?_)
                refine RunL.cons (Op1.pickF (u := .bool _) (congrArg Value.bool g19) rfl ?_)
                refine RunL.cons (Op1.move (v := .bool _) rfl ?_)
                refine RunL.split (d := 153) rfl (fun g20 => ?_) (fun g20 => ?_)
                · skip
                  refine RunL.omit (t := 153) rfl (congrArg Value.bool g20) rfl ?_
                  refine RunL.omit (t := 153) rfl (congrArg Value.bool g20) rfl ?_
                  refine RunL.omit (t := 153) rfl (congrArg Value.bool g20) rfl ?_
                  refine RunL.omit (t := 153) rfl (congrArg Value.bool g20) rfl ?_
                  refine RunL.omitU (t := 157) rfl rfl ?_
                  refine RunL.omitU (t := 157) rfl rfl ?_
                  refine RunL.omitU (t := 157) rfl rfl ?_
                  refine RunL.omit (t := 153) rfl (congrArg Value.bool g20) rfl ?_
                  refine RunL.cons (Op1.pickT (u := .bool _) (congrArg Value.bool g20) rfl ?_)
                  refine RunL.cons (Op1.move (v := .bool _) rfl ?_)
                  refine RunL.omit (t := 163) rfl (congrArg Value.bool (rfl : true = _)) rfl ?_
                  refine RunL.omit (t := 163) rfl (congrArg Value.bool (rfl : true = _)) rfl ?_
                  refine RunL.omit (t := 163) rfl (congrArg Value.bool (rfl : true = _)) rfl ?_
                  refine RunL.omit (t := 163) rfl (congrArg Value.bool (rfl : true = _)) rfl ?_
                  refine RunL.omitU (t := 167) rfl rfl ?_
                  refine RunL.omitU (t := 167) rfl rfl ?_
                  refine RunL.omitU (t := 167) rfl rfl ?_
                  refine RunL.omit (t := 163) rfl (congrArg Value.bool (rfl : true = _)) rfl ?_
                  refine RunL.cons (Op1.pickT (u := .bool _) (congrArg Value.bool (rfl : true = _)) rfl ?_)
                  refine RunL.nil ?_
                  refine run_cond_true (congrArg Value.bool (rfl : true = _)) ?_
                  refine run_seq ?_
                  refine run_region ?_
                  refine RunL.cons (Op1.assign (v := .bool _) rfl ?_)
                  refine RunL.nil ?_
                  refine run_ret1 Try.func10 rfl (RV.tmp (v := .bool _) rfl) ?_
                  exact ⟨rfl, hst.pure⟩
                · skip
                  refine RunL.take (t := 153) rfl (congrArg Value.bool g20) (Op1.move (v := .int .i64 _) rfl ?_)
                  refine RunL.take (t := 153) rfl (congrArg Value.bool g20) (Op1.move (v := .int .i64 _) rfl ?_)
                  refine RunL.take (t := 153) rfl (congrArg Value.bool g20) (Op1.eql rfl rfl ?_)
                  refine RunL.take (t := 153) rfl (congrArg Value.bool g20) (Op1.move (v := .bool _) rfl ?_)
                  refine RunL.splitD (d := 157) rfl (fun g21 => ?_) (fun g21 => ?_)
                  · skip
                    refine RunL.take (t := 157) rfl (congrArg Value.bool (decide_eq_true g21)) (Op1.move (v := .int .i64 _) rfl ?_)
                    refine RunL.take (t := 157) rfl (congrArg Value.bool (decide_eq_true g21)) (Op1.move (v := .int .i64 _) rfl ?_)
                    refine RunL.take (t := 157) rfl (congrArg Value.bool (decide_eq_true g21)) (Op1.eql rfl rfl ?_)
                    refine RunL.take (t := 153) rfl (congrArg Value.bool g20) (Op1.pickT (u := .bool _) (congrArg Value.bool (decide_eq_true g21)) rfl ?_)
                    refine RunL.cons (Op1.pickF (u := .bool _) (congrArg Value.bool g20) rfl ?_)
                    refine RunL.cons (Op1.move (v := .bool _) rfl ?_)
                    refine RunL.splitD (d := 163) rfl (fun g22 => ?_) (fun g22 => ?_)
                    · skip
                      refine RunL.omit (t := 163) rfl (congrArg Value.bool (decide_eq_true g22)) rfl ?_
                      refine RunL.omit (t := 163) rfl (congrArg Value.bool (decide_eq_true g22)) rfl ?_
                      refine RunL.omit (t := 163) rfl (congrArg Value.bool (decide_eq_true g22)) rfl ?_
                      refine RunL.omit (t := 163) rfl (congrArg Value.bool (decide_eq_true g22)) rfl ?_
                      refine RunL.omitU (t := 167) rfl rfl ?_
                      refine RunL.omitU (t := 167) rfl rfl ?_
                      refine RunL.omitU (t := 167) rfl rfl ?_
                      refine RunL.omit (t := 163) rfl (congrArg Value.bool (decide_eq_true g22)) rfl ?_
                      refine RunL.cons (Op1.pickT (u := .bool _) (congrArg Value.bool (decide_eq_true g22)) rfl ?_)
                      refine RunL.nil ?_
                      refine run_cond_true (congrArg Value.bool (rfl : true = _)) ?_
                      refine run_seq ?_
                      refine run_region ?_
                      refine RunL.cons (Op1.assign (v := .bool _) rfl ?_)
                      refine RunL.nil ?_
                      refine run_ret1 Try.func10 rfl (RV.tmp (v := .bool _) rfl) ?_
                      exact ⟨rfl, hst.pure⟩
                    · skip
                      refine RunL.take (t := 163) rfl (congrArg Value.bool (decide_eq_false g22)) (Op1.move (v := .int .i64 _) rfl ?_)
                      refine RunL.take (t := 163) rfl (congrArg Value.bool (decide_eq_false g22)) (Op1.move (v := .int .i64 _) rfl ?_)
                      refine RunL.take (t := 163) rfl (congrArg Value.bool (decide_eq_false g22)) (Op1.eql rfl rfl ?_)
                      refine RunL.take (t := 163) rfl (congrArg Value.bool (decide_eq_false g22)) (Op1.move (v := .bool _) rfl ?_)
                      refine RunL.splitD (d := 167) rfl (fun g23 => ?_) (fun g23 => ?_)
                      · skip
                        refine RunL.take (t := 167) rfl (congrArg Value.bool (decide_eq_true g23)) (Op1.move (v := .int .i64 _) rfl ?_)
                        refine RunL.take (t := 167) rfl (congrArg Value.bool (decide_eq_true g23)) (Op1.move (v := .int .i64 _) rfl ?_)
                        refine RunL.take (t := 167) rfl (congrArg Value.bool (decide_eq_true g23)) (Op1.eql rfl rfl ?_)
                        refine RunL.take (t := 163) rfl (congrArg Value.bool (decide_eq_false g22)) (Op1.pickT (u := .bool _) (congrArg Value.bool (decide_eq_true g23)) rfl ?_)
                        refine RunL.cons (Op1.pickF (u := .bool _) (congrArg Value.bool (decide_eq_false g22)) rfl ?_)
                        refine RunL.nil ?_
                        refine run_cond_dec rfl (fun g24 => ?_) (fun g24 => ?_)
                        · skip
                          refine run_seq ?_
                          refine run_region ?_
                          refine RunL.cons (Op1.assign (v := .bool _) rfl ?_)
                          refine RunL.nil ?_
                          refine run_ret1 Try.func10 rfl (RV.tmp (v := .bool _) rfl) ?_
                          exact ⟨rfl, hst.pure⟩
                        · skip
                          refine run_skip ?_
                          exact cut15 _ w hst (by (try simp only [Bool.not_eq_false', Bool.not_eq_true', decide_eq_true_eq, decide_eq_false_iff_not] at g19); (try simp only [Bool.not_eq_false', Bool.not_eq_true', decide_eq_true_eq, decide_eq_false_iff_not] at g20); unfold OnE; omega) ⟨rfl, rfl, trivial⟩
                      · skip
                        refine RunL.omit (t := 167) rfl (congrArg Value.bool (decide_eq_false g23)) rfl ?_
                        refine RunL.omit (t := 167) rfl (congrArg Value.bool (decide_eq_false g23)) rfl ?_
                        refine RunL.omit (t := 167) rfl (congrArg Value.bool (decide_eq_false g23)) rfl ?_
                        refine RunL.take (t := 163) rfl (congrArg Value.bool (decide_eq_false g22)) (Op1.pickF (u := .bool _) (congrArg Value.bool (decide_eq_false g23)) rfl ?_)
                        refine RunL.cons (Op1.pickF (u := .bool _) (congrArg Value.bool (decide_eq_false g22)) rfl ?_)
                        refine RunL.nil ?_
                        refine run_cond_false (congrArg Value.bool (rfl : false = _)) ?_
                        refine run_skip ?_
                        exact cut15 _ w hst (by (try simp only [Bool.not_eq_false', Bool.not_eq_true', decide_eq_true_eq, decide_eq_false_iff_not] at g19); (try simp only [Bool.not_eq_false', Bool.not_eq_true', decide_eq_true_eq, decide_eq_false_iff_not] at g20); unfold OnE; omega) ⟨rfl, rfl, trivial⟩
                  · skip
                    refine RunL.omit (t := 157) rfl (congrArg Value.bool (decide_eq_false g21)) rfl ?_
                    refine RunL.omit (t := 157) rfl (congrArg Value.bool (decide_eq_false g21)) rfl ?_
                    refine RunL.omit (t := 157) rfl (congrArg Value.bool (decide_eq_false g21)) rfl ?_
                    refine RunL.take (t := 153) rfl (congrArg Value.bool g20) (Op1.pickF (u := .bool _) (congrArg Value.bool (decide_eq_false g21)) rfl ?_)
                    refine RunL.cons (Op1.pickF (u := .bool _) (congrArg Value.bool g20) rfl ?_)
                    refine RunL.cons (Op1.move (v := .bool _) rfl ?_)
                    refine RunL.take (t := 163) rfl (congrArg Value.bool (rfl : false = _)) (Op1.move (v := .int .i64 _) rfl ?_)
                    refine RunL.take (t := 163) rfl (congrArg Value.bool (rfl : false = _)) (Op1.move (v := .int .i64 _) rfl ?_)
                    refine RunL.take (t := 163) rfl (congrArg Value.bool (rfl : false = _)) (Op1.eql rfl rfl ?_)
                    refine RunL.take (t := 163) rfl (congrArg Value.bool (rfl : false = _)) (Op1.move (v := .bool _) rfl ?_)
                    refine RunL.splitD (d := 167) rfl (fun g25 => ?_) (fun g25 => ?_)
                    · skip
                      refine RunL.take (t := 167) rfl (congrArg Value.bool (decide_eq_true g25)) (Op1.move (v := .int .i64 _) rfl ?_)
                      refine RunL.take (t := 167) rfl (congrArg Value.bool (decide_eq_true g25)) (Op1.move (v := .int .i64 _) rfl ?_)
                      refine RunL.take (t := 167) rfl (congrArg Value.bool (decide_eq_true g25)) (Op1.eql rfl rfl ?_)
                      refine RunL.take (t := 163) rfl (congrArg Value.bool (rfl : false = _)) (Op1.pickT (u := .bool _) (congrArg Value.bool (decide_eq_true g25)) rfl ?_)
                      refine RunL.cons (Op1.pickF (u := .bool _) (congrArg Value.bool (rfl : false = _)) rfl ?_)
                      refine RunL.nil ?_
                      refine run_cond_dec rfl (fun g26 => ?_) (fun g26 => ?_)
                      · skip
                        refine run_seq ?_
                        refine run_region ?_
                        refine RunL.cons (Op1.assign (v := .bool _) rfl ?_)
                        refine RunL.nil ?_
                        refine run_ret1 Try.func10 rfl (RV.tmp (v := .bool _) rfl) ?_
                        exact ⟨rfl, hst.pure⟩
                      · skip
                        refine run_skip ?_
                        exact cut15 _ w hst (by (try simp only [Bool.not_eq_false', Bool.not_eq_true', decide_eq_true_eq, decide_eq_false_iff_not] at g19); (try simp only [Bool.not_eq_false', Bool.not_eq_true', decide_eq_true_eq, decide_eq_false_iff_not] at g20); unfold OnE; omega) ⟨rfl, rfl, trivial⟩
                    · skip
                      refine RunL.omit (t := 167) rfl (congrArg Value.bool (decide_eq_false g25)) rfl ?_
                      refine RunL.omit (t := 167) rfl (congrArg Value.bool (decide_eq_false g25)) rfl ?_
                      refine RunL.omit (t := 167) rfl (congrArg Value.bool (decide_eq_false g25)) rfl ?_
                      refine RunL.take (t := 163) rfl (congrArg Value.bool (rfl : false = _)) (Op1.pickF (u := .bool _) (congrArg Value.bool (decide_eq_false g25)) rfl ?_)
                      refine RunL.cons (Op1.pickF (u := .bool _) (congrArg Value.bool (rfl : false = _)) rfl ?_)
                      refine RunL.nil ?_
                      refine run_cond_false (congrArg Value.bool (rfl : false = _)) ?_
                      refine run_skip ?_
                      exact cut15 _ w hst (by (try simp only [Bool.not_eq_false', Bool.not_eq_true', decide_eq_true_eq, decide_eq_false_iff_not] at g19); (try simp only [Bool.not_eq_false', Bool.not_eq_true', decide_eq_true_eq, decide_eq_false_iff_not] at g20); unfold OnE; omega) ⟨rfl, rfl, trivial⟩
        · skip
          refine run_seq ?_
          refine run_region ?_
          refine RunL.cons (Op1.move (v := .int .i64 _) rfl ?_)
          refine RunL.cons (Op1.lss rfl rfl ?_)
          refine RunL.cons (Op1.move (v := .bool _) rfl ?_)
          refine RunL.splitD (d := 79) rfl (fun g27 => ?_) (fun g27 => ?_)
          · skip
            refine RunL.omit (t := 79) rfl (congrArg Value.bool (decide_eq_true g27)) rfl ?_
            refine RunL.omit (t := 79) rfl (congrArg Value.bool (decide_eq_true g27)) rfl ?_
            refine RunL.cons (Op1.pickT (u := .bool _) (congrArg Value.bool (decide_eq_true g27)) rfl ?_)
            refine RunL.cons (Op1.move (v := .bool _) rfl ?_)
            refine RunL.omit (t := 83) rfl (congrArg Value.bool (rfl : true = _)) rfl ?_
            refine RunL.omit (t := 83) rfl (congrArg Value.bool (rfl : true = _)) rfl ?_
            refine RunL.cons (Op1.pickT (u := .bool _) (congrArg Value.bool (rfl : true = _)) rfl ?_)
            refine RunL.cons (Op1.move (v := .bool _) rfl ?_)
            refine RunL.omit (t := 87) rfl (congrArg Value.bool (rfl : true = _)) rfl ?_
            refine RunL.omit (t := 87) rfl (congrArg Value.bool (rfl : true = _)) rfl ?_
            refine RunL.cons (Op1.pickT (u := .bool _) (congrArg Value.bool (rfl : true = _)) rfl ?_)
            refine RunL.nil ?_
            refine run_cond_true (congrArg Value.bool (rfl : true = _)) ?_
            refine run_seq ?_
            refine run_region ?_
            refine RunL.cons (Op1.move (v := .bool _) rfl ?_)
            refine RunL.cons (Op1.not rfl ?_)
            refine RunL.cons (Op1.move (v := .bool _) rfl ?_)
            refine RunL.split (d := 93) rfl (fun g28 => ?_) (fun g28 => ?_)
            · skip
              refine RunL.take (t := 93) rfl (congrArg Value.bool g28) (Op1.move (v := .bool _) rfl ?_)
              refine RunL.take (t := 93) rfl (congrArg Value.bool g28) (Op1.not rfl ?_)
              refine RunL.cons (Op1.pickT (u := .bool _) (congrArg Value.bool g28) rfl ?_)
              refine RunL.cons (Op1.assign (v := .bool _) rfl ?_)
              refine RunL.nil ?_
              refine run_ret1 Try.func10 rfl (RV.tmp (v := .bool _) rfl) ?_
              exact ⟨congrArg Value.bool (by rw [coversZ_out _ _ _ _ _ _ (by omega)]; rfl), hst.pure⟩
            · skip
              exfalso
              rw [coversZ_out _ _ _ _ _ _ (by omega)] at g28; cases g28
          · skip
            refine RunL.take (t := 79) rfl (congrArg Value.bool (decide_eq_false g27)) (Op1.move (v := .int .i64 _) rfl ?_)
            refine RunL.take (t := 79) rfl (congrArg Value.bool (decide_eq_false g27)) (Op1.lss rfl rfl ?_)
            refine RunL.cons (Op1.pickF (u := .bool _) (congrArg Value.bool (decide_eq_false g27)) rfl ?_)
            refine RunL.cons (Op1.move (v := .bool _) rfl ?_)
            refine RunL.splitD (d := 83) rfl (fun g29 => ?_) (fun g29 => ?_)
            · skip
              refine RunL.omit (t := 83) rfl (congrArg Value.bool (decide_eq_true g29)) rfl ?_
              refine RunL.omit (t := 83) rfl (congrArg Value.bool (decide_eq_true g29)) rfl ?_
              refine RunL.cons (Op1.pickT (u := .bool _) (congrArg Value.bool (decide_eq_true g29)) rfl ?_)
              refine RunL.cons (Op1.move (v := .bool _) rfl ?_)
              refine RunL.omit (t := 87) rfl (congrArg Value.bool (rfl : true = _)) rfl ?_
              refine RunL.omit (t := 87) rfl (congrArg Value.bool (rfl : true = _)) rfl ?_
              refine RunL.cons (Op1.pickT (u := .bool _) (congrArg Value.bool (rfl : true = _)) rfl ?_)
              refine RunL.nil ?_
              refine run_cond_true (congrArg Value.bool (rfl : true = _)) ?_
              refine run_seq ?_
              refine run_region ?_
              refine RunL.cons (Op1.move (v := .bool _) rfl ?_)
              refine RunL.cons (Op1.not rfl ?_)
              refine RunL.cons (Op1.move (v := .bool _) rfl ?_)
              refine RunL.split (d := 93) rfl (fun g30 => ?_) (fun g30 => ?_)
              · skip
                refine RunL.take (t := 93) rfl (congrArg Value.bool g30) (Op1.move (v := .bool _) rfl ?_)
                refine RunL.take (t := 93) rfl (congrArg Value.bool g30) (Op1.not rfl ?_)
                refine RunL.cons (Op1.pickT (u := .bool _) (congrArg Value.bool g30) rfl ?_)
                refine RunL.cons (Op1.assign (v := .bool _) rfl ?_)
                refine RunL.nil ?_
                refine run_ret1 Try.func10 rfl (RV.tmp (v := .bool _) rfl) ?_
                exact ⟨congrArg Value.bool (by rw [coversZ_out _ _ _ _ _ _ (by omega)]; rfl), hst.pure⟩
              · skip
                exfalso
                rw [coversZ_out _ _ _ _ _ _ (by omega)] at g30; cases g30
            · skip
              refine RunL.take (t := 83) rfl (congrArg Value.bool (decide_eq_false g29)) (Op1.move (v := .int .i64 _) rfl ?_)
              refine RunL.take (t := 83) rfl (congrArg Value.bool (decide_eq_false g29)) (Op1.geq rfl rfl ?_)
              refine RunL.cons (Op1.pickF (u := .bool _) (congrArg Value.bool (decide_eq_false g29)) rfl ?_)
              refine RunL.cons (Op1.move (v := .bool _) rfl ?_)
              refine RunL.splitD (d := 87) rfl (fun g31 => ?_) (fun g31 => ?_)
              · skip
                refine RunL.omit (t := 87) rfl (congrArg Value.bool (decide_eq_true g31)) rfl ?_
                refine RunL.omit (t := 87) rfl (congrArg Value.bool (decide_eq_true g31)) rfl ?_
                refine RunL.cons (Op1.pickT (u := .bool _) (congrArg Value.bool (decide_eq_true g31)) rfl ?_)
                refine RunL.nil ?_
                refine run_cond_true (congrArg Value.bool (rfl : true = _)) ?_
                refine run_seq ?_
                refine run_region ?_
                refine RunL.cons (Op1.move (v := .bool _) rfl ?_)
                refine RunL.cons (Op1.not rfl ?_)
                refine RunL.cons (Op1.move (v := .bool _) rfl ?_)
                refine RunL.split (d := 93) rfl (fun g32 => ?_) (fun g32 => ?_)
                · skip
                  refine RunL.take (t := 93) rfl (congrArg Value.bool g32) (Op1.move (v := .bool _) rfl ?_)
                  refine RunL.take (t := 93) rfl (congrArg Value.bool g32) (Op1.not rfl ?_)
                  refine RunL.cons (Op1.pickT (u := .bool _) (congrArg Value.bool g32) rfl ?_)
                  refine RunL.cons (Op1.assign (v := .bool _) rfl ?_)
                  refine RunL.nil ?_
                  refine run_ret1 Try.func10 rfl (RV.tmp (v := .bool _) rfl) ?_
                  exact ⟨congrArg Value.bool (by rw [coversZ_out _ _ _ _ _ _ (by omega)]; rfl), hst.pure⟩
                · skip
                  exfalso
                  rw [coversZ_out _ _ _ _ _ _ (by omega)] at g32; cases g32
              · skip
                refine RunL.take (t := 87) rfl (congrArg Value.bool (decide_eq_false g31)) (Op1.move (v := .int .i64 _) rfl ?_)
                refine RunL.take (t := 87) rfl (congrArg Value.bool (decide_eq_false g31)) (Op1.geq rfl rfl ?_)
                refine RunL.cons (Op1.pickF (u := .bool _) (congrArg Value.bool (decide_eq_false g31)) rfl ?_)
                refine RunL.nil ?_
                refine run_cond_dec rfl (fun g33 => ?_) (fun g33 => ?_)
                · skip
                  refine run_seq ?_
                  refine run_region ?_
                  refine RunL.cons (Op1.move (v := .bool _) rfl ?_)
                  refine RunL.cons (Op1.not rfl ?_)
                  refine RunL.cons (Op1.move (v := .bool _) rfl ?_)
                  refine RunL.split (d := 93) rfl (fun g34 => ?_) (fun g34 => ?_)
                  · skip
                    refine RunL.take (t := 93) rfl (congrArg Value.bool g34) (Op1.move (v := .bool _) rfl ?_)
                    refine RunL.take (t := 93) rfl (congrArg Value.bool g34) (Op1.not rfl ?_)
                    refine RunL.cons (Op1.pickT (u := .bool _) (congrArg Value.bool g34) rfl ?_)
                    refine RunL.cons (Op1.assign (v := .bool _) rfl ?_)
                    refine RunL.nil ?_
                    refine run_ret1 Try.func10 rfl (RV.tmp (v := .bool _) rfl) ?_
                    exact ⟨congrArg Value.bool (by rw [coversZ_out _ _ _ _ _ _ (by omega)]; rfl), hst.pure⟩
                  · skip
                    exfalso
                    rw [coversZ_out _ _ _ _ _ _ (by omega)] at g34; cases g34
                · skip
                  refine run_skip ?_
                  exact cut8 _ w hst (by omega) ⟨rfl, rfl, rfl, rfl, rfl, trivial⟩
      · skip
        refine run_seq ?_
        refine run_region ?_
        refine RunL.cons (Op1.move (v := .bool _) rfl ?_)
        refine RunL.cons (Op1.move (v := .bool _) rfl ?_)
        refine RunL.split (d := 74) rfl (fun g35 => ?_) (fun g35 => ?_)
        · skip
          refine RunL.take (t := 74) rfl (congrArg Value.bool g35) (Op1.move (v := .bool _) rfl ?_)
          refine RunL.cons (Op1.pickT (u := .bool _) (congrArg Value.bool g35) rfl ?_)
          refine RunL.nil ?_
          refine run_cond_split rfl (fun g36 => ?_) (fun g36 => ?_)
          · skip
            exfalso
            exact shared_not hJ3 g35 g36
          · skip
            refine run_skip ?_
            exact cut5 _ w hst (trivial) ⟨rfl, rfl, rfl, rfl, rfl, trivial⟩
        · skip
          refine RunL.omit (t := 74) rfl (congrArg Value.bool g35) rfl ?_
          refine RunL.cons (Op1.pickF (u := .bool _) (congrArg Value.bool g35) rfl ?_)
          refine RunL.nil ?_
          refine run_cond_false (congrArg Value.bool (rfl : false = _)) ?_
          refine run_skip ?_
          exact cut5 _ w hst (trivial) ⟨rfl, rfl, rfl, rfl, rfl, trivial⟩
    · skip
      refine run_seq ?_
      refine run_region ?_
      refine RunL.cons (Op1.move (v := .int .i64 _) rfl ?_)
      refine RunL.cons (Op1.lss rfl rfl ?_)
      refine RunL.cons (Op1.move (v := .bool _) rfl ?_)
      refine RunL.splitD (d := 52) rfl (fun g37 => ?_) (fun g37 => ?_)
      · skip
        refine RunL.take (t := 52) rfl (congrArg Value.bool (decide_eq_true g37)) (Op1.move (v := .int .i64 _) rfl ?_)
        refine RunL.take (t := 52) rfl (congrArg Value.bool (decide_eq_true g37)) (Op1.gtr rfl rfl ?_)
        refine RunL.cons (Op1.pickT (u := .bool _) (congrArg Value.bool (decide_eq_true g37)) rfl ?_)
        refine RunL.cons (Op1.move (v := .bool _) rfl ?_)
        refine RunL.splitD (d := 56) rfl (fun g38 => ?_) (fun g38 => ?_)
        · skip
          refine RunL.omit (t := 56) rfl (congrArg Value.bool (decide_eq_true g38)) rfl ?_
          refine RunL.omit (t := 56) rfl (congrArg Value.bool (decide_eq_true g38)) rfl ?_
          refine RunL.omit (t := 56) rfl (congrArg Value.bool (decide_eq_true g38)) rfl ?_
          refine RunL.omitU (t := 59) rfl rfl ?_
          refine RunL.omitU (t := 59) rfl rfl ?_
          refine RunL.omit (t := 56) rfl (congrArg Value.bool (decide_eq_true g38)) rfl ?_
          refine RunL.cons (Op1.pickT (u := .bool _) (congrArg Value.bool (decide_eq_true g38)) rfl ?_)
          refine RunL.cons (Op1.not rfl ?_)
          refine RunL.nil ?_
          refine run_cond_false (congrArg Value.bool (congrArg not (rfl : true = _))) ?_
          refine run_skip ?_
          exact cut2 _ w hst (by omega) ⟨rfl, rfl, rfl, rfl, rfl, trivial⟩
        · skip
          refine RunL.take (t := 56) rfl (congrArg Value.bool (decide_eq_false g38)) (Op1.move (v := .int .i64 _) rfl ?_)
          refine RunL.take (t := 56) rfl (congrArg Value.bool (decide_eq_false g38)) (Op1.gtr rfl rfl ?_)
          refine RunL.take (t := 56) rfl (congrArg Value.bool (decide_eq_false g38)) (Op1.move (v := .bool _) rfl ?_)
          refine RunL.splitD (d := 59) rfl (fun g39 => ?_) (fun g39 => ?_)
          · skip
            refine RunL.take (t := 59) rfl (congrArg Value.bool (decide_eq_true g39)) (Op1.move (v := .int .i64 _) rfl ?_)
            refine RunL.take (t := 59) rfl (congrArg Value.bool (decide_eq_true g39)) (Op1.lss rfl rfl ?_)
            refine RunL.take (t := 56) rfl (congrArg Value.bool (decide_eq_false g38)) (Op1.pickT (u := .bool _) (congrArg Value.bool (decide_eq_true g39)) rfl ?_)
            refine RunL.cons (Op1.pickF (u := .bool _) (congrArg Value.bool (decide_eq_false g38)) rfl ?_)
            refine RunL.cons (Op1.notD rfl ?_)
            refine RunL.nil ?_
            refine run_cond_dec rfl (fun g40 => ?_) (fun g40 => ?_)
            · skip
              refine run_seq ?_
              refine run_region ?_
              refine RunL.cons (Op1.assign (v := .bool _) rfl ?_)
              refine RunL.nil ?_
              refine run_ret1 Try.func10 rfl (RV.tmp (v := .bool _) rfl) ?_
              exact ⟨rfl, hst.pure⟩
            · skip
              refine run_skip ?_
              exact cut2 _ w hst (by omega) ⟨rfl, rfl, rfl, rfl, rfl, trivial⟩
          · skip
            refine RunL.omit (t := 59) rfl (congrArg Value.bool (decide_eq_false g39)) rfl ?_
            refine RunL.omit (t := 59) rfl (congrArg Value.bool (decide_eq_false g39)) rfl ?_
            refine RunL.take (t := 56) rfl (congrArg Value.bool (decide_eq_false g38)) (Op1.pickF (u := .bool _) (congrArg Value.bool (decide_eq_false g39)) rfl ?_)
            refine RunL.cons (Op1.pickF (u := .bool _) (congrArg Value.bool (decide_eq_false g38)) rfl ?_)
            refine RunL.cons (Op1.not rfl ?_)
            refine RunL.nil ?_
            refine run_cond_true (congrArg Value.bool (congrArg not (rfl : false = _))) ?_
            refine run_seq ?_
            refine run_region ?_
            refine RunL.cons (Op1.assign (v := .bool _) rfl ?_)
            refine RunL.nil ?_
            refine run_ret1 Try.func10 rfl (RV.tmp (v := .bool _) rfl) ?_
            exact ⟨rfl, hst.pure⟩
      · skip
        refine RunL.omit (t := 52) rfl (congrArg Value.bool (decide_eq_false g37)) rfl ?_
        refine RunL.omit (t := 52) rfl (congrArg Value.bool (decide_eq_false g37)) rfl ?_
        refine RunL.cons (Op1.pickF (u := .bool _) (congrArg Value.bool (decide_eq_false g37)) rfl ?_)
        refine RunL.cons (Op1.move (v := .bool _) rfl ?_)
        refine RunL.take (t := 56) rfl (congrArg Value.bool (rfl : false = _)) (Op1.move (v := .int .i64 _) rfl ?_)
        refine RunL.take (t := 56) rfl (congrArg Value.bool (rfl : false = _)) (Op1.gtr rfl rfl ?_)
        refine RunL.take (t := 56) rfl (congrArg Value.bool (rfl : false = _)) (Op1.move (v := .bool _) rfl ?_)
        refine RunL.splitD (d := 59) rfl (fun g41 => ?_) (fun g41 => ?_)
        · skip
          refine RunL.take (t := 59) rfl (congrArg Value.bool (decide_eq_true g41)) (Op1.move (v := .int .i64 _) rfl ?_)
          refine RunL.take (t := 59) rfl (congrArg Value.bool (decide_eq_true g41)) (Op1.lss rfl rfl ?_)
          refine RunL.take (t := 56) rfl (congrArg Value.bool (rfl : false = _)) (Op1.pickT (u := .bool _) (congrArg Value.bool (decide_eq_true g41)) rfl ?_)
          refine RunL.cons (Op1.pickF (u := .bool _) (congrArg Value.bool (rfl : false = _)) rfl ?_)
          refine RunL.cons (Op1.notD rfl ?_)
          refine RunL.nil ?_
          refine run_cond_dec rfl (fun g42 => ?_) (fun g42 => ?_)
          · skip
            refine run_seq ?_
            refine run_region ?_
            refine RunL.cons (Op1.assign (v := .bool _) rfl ?_)
            refine RunL.nil ?_
            refine run_ret1 Try.func10 rfl (RV.tmp (v := .bool _) rfl) ?_
            exact ⟨rfl, hst.pure⟩
          · skip
            refine run_skip ?_
            exact cut2 _ w hst (by omega) ⟨rfl, rfl, rfl, rfl, rfl, trivial⟩
        · skip
          refine RunL.omit (t := 59) rfl (congrArg Value.bool (decide_eq_false g41)) rfl ?_
          refine RunL.omit (t := 59) rfl (congrArg Value.bool (decide_eq_false g41)) rfl ?_
          refine RunL.take (t := 56) rfl (congrArg Value.bool (rfl : false = _)) (Op1.pickF (u := .bool _) (congrArg Value.bool (decide_eq_false g41)) rfl ?_)
          refine RunL.cons (Op1.pickF (u := .bool _) (congrArg Value.bool (rfl : false = _)) rfl ?_)
          refine RunL.cons (Op1.not rfl ?_)
          refine RunL.nil ?_
          refine run_cond_true (congrArg Value.bool (congrArg not (rfl : false = _))) ?_
          refine run_seq ?_
          refine run_region ?_
          refine RunL.cons (Op1.assign (v := .bool _) rfl ?_)
          refine RunL.nil ?_
          refine run_ret1 Try.func10 rfl (RV.tmp (v := .bool _) rfl) ?_
          exact ⟨rfl, hst.pure⟩

theorem law_EdgeWithin (ax ay az bx by_ bz cx cy cz : Int) (x y : Int) (w : World) : Ret Try.prog 11 #[.agg #[.int .i32 ax, .int .i32 ay, .int .i32 az, .int .i32 bx, .int .i32 by_, .int .i32 bz, .int .i32 cx, .int .i32 cy, .int .i32 cz], .int .i64 x, .int .i64 y] w (fun v w' => v = .bool true ∧ St w NoM [] [] w') := by
  refine Ret.enter (args := [.agg #[.int .i32 ax, .int .i32 ay, .int .i32 az, .int .i32 bx, .int .i32 by_, .int .i32 bz, .int .i32 cx, .int .i32 cy, .int .i32 cz], .int .i64 x, .int .i64 y]) Try.func11 rfl rfl rfl ?_
  have hst := St.init w
  refine run_seq ?_
  refine run_region ?_
  refine RunL.cons (Op1.box (v := .agg #[.int .i32 _, .int .i32 _, .int .i32 _, .int .i32 _, .int .i32 _, .int .i32 _, .int .i32 _, .int .i32 _, .int .i32 _]) hst rfl rfl fun w b3 hst => ?_)
  refine RunL.cons (Op1.assign (v := .bool _) rfl ?_)
  refine RunL.nil ?_
  refine run_seq ?_
  refine run_seq ?_
  refine run_region ?_
  refine RunL.cons (Op1.call0  ent36 rfl  ((law27_whole _).mono fun v w hp => ?_))
  obtain ⟨rfl, hp⟩ := hp
  replace hst := hst.keepc hp
  clear hp
  refine RunL.cons (Op1.not rfl ?_)
  refine RunL.nil ?_
  refine run_cond_split rfl (fun g1 => ?_) (fun g1 => ?_)
  · skip
    exfalso
    cases g1
  · skip
    refine run_skip ?_
    refine run_seq ?_
    refine Run.cutC hst [1, 2, 3] (¬ (x < 0 ∨ y < 0 ∨ 1024 ≤ x ∨ 1024 ≤ y)) (fun f w kf4 hst hJ3 => ?_) (fun cut2 => ?_)
    · skip
      refine Run.slots (sl := [(1, .int .i64 _), (2, .int .i64 _), (3, .pointer (some ⟨_, _, none⟩))]) ⟨(kf4.get 1 rfl).trans rfl, (kf4.get 2 rfl).trans rfl, (kf4.get 3 rfl).trans rfl, trivial⟩ ?_
      refine run_seq ?_
      refine Run.cutC hst [1, 2, 3] (0 < sideZ (clampZ ax) (clampZ ay) (clampZ bx) (clampZ by_) (clampZ cx) (clampZ cy)) (fun f w kf7 hst hJ6 => ?_) (fun cut5 => ?_)
      · skip
        refine Run.slots (sl := [(1, .int .i64 _), (2, .int .i64 _), (3, .pointer (some ⟨_, _, none⟩))]) ⟨(kf7.get 1 rfl).trans rfl, (kf7.get 2 rfl).trans rfl, (kf7.get 3 rfl).trans rfl, trivial⟩ ?_
        refine run_seq ?_
        refine run_region ?_
        refine RunL.cons (Op1.move (v := .int .i64 _) rfl ?_)
        first | refine RunL.cons (Op1.mulN rfl rfl rfl (wrap_i64 (by omega) (by omega)) ?_) | refine RunL.cons (Op1.mulB rfl rfl (by omega) (by omega) (by omega) (by omega) (fun hm8 hm9 => ?_))
        refine RunL.cons (Op1.addN rfl rfl rfl (wrap_i64 (by omega) (by omega)) ?_)
        first | refine RunL.cons (Op1.convN ty3 ty21 rfl (wrap_i32 (by omega) (by omega)) ?_) | refine RunL.cons (Op1.conv ty3 ty21 rfl ?_)
        refine RunL.cons (Op1.move (v := .int .i64 _) rfl ?_)
        first | refine RunL.cons (Op1.mulN rfl rfl rfl (wrap_i64 (by omega) (by omega)) ?_) | refine RunL.cons (Op1.mulB rfl rfl (by omega) (by omega) (by omega) (by omega) (fun hm10 hm11 => ?_))
        refine RunL.cons (Op1.addN rfl rfl rfl (wrap_i64 (by omega) (by omega)) ?_)
        first | refine RunL.cons (Op1.convN ty3 ty21 rfl (wrap_i32 (by omega) (by omega)) ?_) | refine RunL.cons (Op1.conv ty3 ty21 rfl ?_)
        refine RunL.cons (Op1.buildStruct ty25 stf25 (.cons rfl (v := .int .i32 _) rfl rfl rfl rfl (by repeat (first | exact Put.nil | apply Put.put | apply Put.skip)) (.cons rfl (v := .int .i32 _) rfl rfl rfl rfl (by repeat (first | exact Put.nil | apply Put.put | apply Put.skip)) .nil)) ?_)
        refine RunL.cons (Op1.alloc hst ty25 fun w b7 hst => ?_)
        refine RunL.cons (Op1.store (v := .agg #[.int .i32 _, .int .i32 _, .int .i32 _]) hst ty25 rfl rfl rfl rfl rfl (.here) (by repeat (first | exact Put.nil | apply Put.put | apply Put.skip)) fun w hst => ?_)
        refine RunL.nil ?_
        refine run_seq ?_
        refine run_region ?_
        refine RunL.cons (Op1.assign (v := .int .i64 _) rfl ?_)
        refine RunL.nil ?_
        refine run_seq ?_
        refine run_region ?_
        refine RunL.cons (Op1.assign (v := .int .i64 _) rfl ?_)
        refine RunL.nil ?_
        refine run_seq ?_
        refine run_seq ?_
        refine run_region ?_
        refine RunL.cons (Op1.assign (v := .int .i64 _) rfl ?_)
        refine RunL.nil ?_
        refine run_block ?_
        refine run_loop ?_
        refine run_seq ?_
        refine run_seq ?_
        refine run_region ?_
        refine RunL.cons (Op1.move (v := .int .i64 _) rfl ?_)
        refine RunL.cons (Op1.lss rfl rfl ?_)
        refine RunL.nil ?_
        refine run_cond_true (congrArg Value.bool (decide_eq_true (by decide))) ?_
        refine run_skip ?_
        refine run_seq ?_
        refine run_block ?_
        refine run_seq ?_
        refine RunD.start hst (bs := [0, 1, 3, 0, 8, 24, 56, 120, 0, 511, 1023]) (ds := [some 60, some 61, some 62, some 63, some 64, some 65, some 66, some 67, some 68, some 69, some 11]) ⟨by kernel_rfl, by kernel_rfl, by kernel_rfl⟩ (fun tab12 => ?_)
        refine RunD.op (det _) tab12 1 (fun f' L' w' hc => Op1.move (v := .int .i64 _) (hc.old (v := .int .i64 _) rfl rfl rfl) ⟨[], ⟨rfl, rfl⟩, hc.st⟩) ?_
        refine RunD.op (det _) tab12 2 (fun f' L' w' hc => Op1.indexArr ty27 ty25 (hc.old (v := .pointer (some ⟨_, _, none⟩)) rfl rfl rfl) (hc.det (j := 0) rfl rfl rfl rfl) (by omega) (by omega) ⟨[], ⟨rfl, rfl⟩, hc.st⟩) ?_
        refine RunD.op (det _) tab12 3 (fun f' L' w' hc => Op1.loadA (vs := [.int .i32 _, .int .i32 _, .int .i32 _]) ty25 rfl (hc.det (j := 1) rfl rfl rfl rfl) rfl (cells_of_obj (n := 3) (hc.st.objL (List.mem_append_right _ (.tail _ (.head _)))) _ rfl) ⟨[], ⟨rfl, rfl⟩, hc.st⟩) ?_
        refine RunD.op (det _) tab12 4 (fun f' L' w' hc => Op1.move (v := .int .i64 _) (hc.old (v := .int .i64 _) rfl rfl rfl) ⟨[], ⟨rfl, rfl⟩, hc.st⟩) ?_
        refine RunD.op (det _) tab12 5 (fun f' L' w' hc => Op1.addN (hc.det (j := 3) rfl rfl rfl rfl) rfl rfl (wrap_i64 (by omega) (by omega)) ⟨[], ⟨rfl, rfl⟩, hc.st⟩) ?_
        first | refine RunD.op (det _) tab12 6 (fun f' L' w' hc => Op1.remN (hc.det (j := 4) rfl rfl rfl rfl) rfl (by omega) (by omega) rfl ⟨[], ⟨rfl, rfl⟩, hc.st⟩) ?_ | refine RunD.op (det _) tab12 6 (fun f' L' w' hc => Op1.rem (hc.det (j := 4) rfl rfl rfl rfl) rfl (by omega) ⟨[], ⟨rfl, rfl⟩, hc.st⟩) ?_
        refine RunD.op (det _) tab12 7 (fun f' L' w' hc => Op1.indexArr ty27 ty25 (hc.old (v := .pointer (some ⟨_, _, none⟩)) rfl rfl rfl) (hc.det (j := 5) rfl rfl rfl rfl) (by omega) (by omega) ⟨[], ⟨rfl, rfl⟩, hc.st⟩) ?_
        refine RunD.op (det _) tab12 8 (fun f' L' w' hc => Op1.loadA (vs := [.int .i32 _, .int .i32 _, .int .i32 _]) ty25 rfl (hc.det (j := 6) rfl rfl rfl rfl) rfl (cells_of_obj (n := 3) (hc.st.objL (List.mem_append_right _ (.tail _ (.head _)))) _ rfl) ⟨[], ⟨rfl, rfl⟩, hc.st⟩) ?_
        refine RunD.op (det _) tab12 9 (fun f' L' w' hc => Op1.loadA (vs := [.int .i32 _, .int .i32 _, .int .i32 _]) ty25 rfl (hc.old (v := .pointer (some ⟨_, _, none⟩)) rfl rfl rfl) rfl (cells_of_obj (n := 3) (hc.st.objL (List.mem_append_right _ (.head _))) _ rfl) ⟨[], ⟨rfl, rfl⟩, hc.st⟩) ?_
        refine RunD.fin followsMixed tab12 hst rfl (fun f13 w R16 hs14 hd15 hst => ?_)
        obtain ⟨h60_, r0⟩ := hd15 0 60 rfl rfl
        obtain ⟨h61_, r1⟩ := hd15 1 61 rfl rfl
        obtain ⟨h62_, r2⟩ := hd15 2 62 rfl rfl
        obtain ⟨h63_, r3⟩ := hd15 3 63 rfl rfl
        obtain ⟨h64_, r4⟩ := hd15 4 64 rfl rfl
        obtain ⟨h65_, r5⟩ := hd15 5 65 rfl rfl
        obtain ⟨h66_, r6⟩ := hd15 6 66 rfl rfl
        obtain ⟨h67_, r7⟩ := hd15 7 67 rfl rfl
        obtain ⟨h68_, r8⟩ := hd15 8 68 rfl rfl
        simp only [show List.range 9 = [0, 1, 2, 3, 4, 5, 6, 7, 8] from rfl, List.flatMap_cons, List.flatMap_nil, r0, r1, r2, r3, r4, r5, r6, r7, r8, List.nil_append, List.append_nil, List.cons_append] at hst
        refine RunL.slots (sl := [(1, .int .i64 _), (2, .int .i64 _), (3, .pointer (some ⟨_, _, none⟩)), (7, .pointer (some ⟨_, _, none⟩)), (8, .int .i64 _), (9, .int .i64 _), (10, .int .i64 _), (62, .agg #[.int .i32 _, .int .i32 _, .int .i32 _]), (67, .agg #[.int .i32 _, .int .i32 _, .int .i32 _]), (68, .agg #[.int .i32 _, .int .i32 _, .int .i32 _])]) ⟨(hs14 1 rfl).trans rfl, (hs14 2 rfl).trans rfl, (hs14 3 rfl).trans rfl, (hs14 7 rfl).trans rfl, (hs14 8 rfl).trans rfl, (hs14 9 rfl).trans rfl, (hs14 10 rfl).trans rfl, h62_, h67_, h68_, trivial⟩ ?_
        clear hs14 hd15 tab12
        refine RunL.cons (Op1.call3 (v1 := .agg #[.int .i32 _, .int .i32 _, .int .i32 _]) (v2 := .agg #[.int .i32 _, .int .i32 _, .int .i32 _]) (v3 := .agg #[.int .i32 _, .int .i32 _, .int .i32 _]) ent27 rfl rfl rfl rfl ((edge_side_mid _ _ _ _ _ _ _ _ _ _ hJ3).mono fun v w hp => ?_))
        obtain ⟨rfl, hp⟩ := hp
        replace hst := hst.keepc hp
        clear hp
        refine RunL.cons (Op1.assign (v := .int .i64 _) rfl ?_)
        refine RunL.nil ?_
        refine run_seq ?_
        refine Run.cutV hst (fun (p1 : Int) => [(8, .int .i64 p1)]) [1, 2, 3, 7, 9, 10, 11] (fun (p1 : Int) => 0 ≤ p1 ∧ p1 ≤ 1 ∧ ((p1 = 0 + 1 ∧ 0 < sideZ (clampZ ax) (clampZ ay) (clampZ bx) (clampZ by_) (16 * x + 8) (16 * y + 8)) ∨ (p1 = 0 ∧ ¬ 0 < sideZ (clampZ ax) (clampZ ay) (clampZ bx) (clampZ by_) (16 * x + 8) (16 * y + 8)))) (fun p1 f w kf19 hst hJ18 => ?_) (fun cut17 => ?_)
        · skip
          refine Run.slots (sl := [(1, .int .i64 _), (2, .int .i64 _), (3, .pointer (some ⟨_, _, none⟩)), (7, .pointer (some ⟨_, _, none⟩)), (9, .int .i64 _), (10, .int .i64 _), (11, .int .i64 _), (8, .int .i64 p1)]) ⟨(kf19.get 1 rfl).trans rfl, (kf19.get 2 rfl).trans rfl, (kf19.get 3 rfl).trans rfl, (kf19.get 7 rfl).trans rfl, (kf19.get 9 rfl).trans rfl, (kf19.get 10 rfl).trans rfl, (kf19.get 11 rfl).trans rfl, rfl, trivial⟩ ?_
          refine Run.cutV hst (fun (n1 : Int) => [(9, .int .i64 n1)]) [1, 2, 3, 7, 8, 10] (fun (n1 : Int) => 0 ≤ n1 ∧ n1 ≤ 1 ∧ ((n1 = 0 + 1 ∧ sideZ (clampZ ax) (clampZ ay) (clampZ bx) (clampZ by_) (16 * x + 8) (16 * y + 8) < 0) ∨ (n1 = 0 ∧ ¬ sideZ (clampZ ax) (clampZ ay) (clampZ bx) (clampZ by_) (16 * x + 8) (16 * y + 8) < 0))) (fun n1 f w kf22 hst hJ21 => ?_) (fun cut20 => ?_)
          · skip
            refine Run.slots (sl := [(1, .int .i64 _), (2, .int .i64 _), (3, .pointer (some ⟨_, _, none⟩)), (7, .pointer (some ⟨_, _, none⟩)), (8, .int .i64 _), (10, .int .i64 _), (9, .int .i64 n1)]) ⟨(kf22.get 1 rfl).trans rfl, (kf22.get 2 rfl).trans rfl, (kf22.get 3 rfl).trans rfl, (kf22.get 7 rfl).trans rfl, (kf22.get 8 rfl).trans rfl, (kf22.get 10 rfl).trans rfl, rfl, trivial⟩ ?_
            refine run_inBlock ?_
            refine run_region ?_
            refine RunL.cons (Op1.move (v := .int .i64 _) rfl ?_)
            refine RunL.cons (Op1.addN rfl rfl rfl (wrap_i64 (by omega) (by omega)) ?_)
            refine RunL.cons (Op1.assign (v := .int .i64 _) rfl ?_)
            refine RunL.nil ?_
            refine run_inLoop ?_
            refine run_seq ?_
            refine run_seq ?_
            refine run_region ?_
            refine RunL.cons (Op1.move (v := .int .i64 _) rfl ?_)
            refine RunL.cons (Op1.lss rfl rfl ?_)
            refine RunL.nil ?_
            refine run_cond_true (congrArg Value.bool (decide_eq_true (by decide))) ?_
            refine run_skip ?_
            refine run_seq ?_
            refine run_block ?_
            refine run_seq ?_
            refine RunD.start hst (bs := [0, 1, 3, 0, 8, 24, 56, 120, 0, 511, 1023]) (ds := [some 60, some 61, some 62, some 63, some 64, some 65, some 66, some 67, some 68, some 69, some 11]) ⟨by kernel_rfl, by kernel_rfl, by kernel_rfl⟩ (fun tab23 => ?_)
            refine RunD.op (det _) tab23 1 (fun f' L' w' hc => Op1.move (v := .int .i64 _) (hc.old (v := .int .i64 _) rfl rfl rfl) ⟨[], ⟨rfl, rfl⟩, hc.st⟩) ?_
            refine RunD.op (det _) tab23 2 (fun f' L' w' hc => Op1.indexArr ty27 ty25 (hc.old (v := .pointer (some ⟨_, _, none⟩)) rfl rfl rfl) (hc.det (j := 0) rfl rfl rfl rfl) (by omega) (by omega) ⟨[], ⟨rfl, rfl⟩, hc.st⟩) ?_
            refine RunD.op (det _) tab23 3 (fun f' L' w' hc => Op1.loadA (vs := [.int .i32 _, .int .i32 _, .int .i32 _]) ty25 rfl (hc.det (j := 1) rfl rfl rfl rfl) rfl (cells_of_obj (n := 3) (hc.st.objL (List.mem_append_right _ (.tail _ (.head _)))) _ rfl) ⟨[], ⟨rfl, rfl⟩, hc.st⟩) ?_
            refine RunD.op (det _) tab23 4 (fun f' L' w' hc => Op1.move (v := .int .i64 _) (hc.old (v := .int .i64 _) rfl rfl rfl) ⟨[], ⟨rfl, rfl⟩, hc.st⟩) ?_
            refine RunD.op (det _) tab23 5 (fun f' L' w' hc => Op1.addN (hc.det (j := 3) rfl rfl rfl rfl) rfl rfl (wrap_i64 (by omega) (by omega)) ⟨[], ⟨rfl, rfl⟩, hc.st⟩) ?_
            first | refine RunD.op (det _) tab23 6 (fun f' L' w' hc => Op1.remN (hc.det (j := 4) rfl rfl rfl rfl) rfl (by omega) (by omega) rfl ⟨[], ⟨rfl, rfl⟩, hc.st⟩) ?_ | refine RunD.op (det _) tab23 6 (fun f' L' w' hc => Op1.rem (hc.det (j := 4) rfl rfl rfl rfl) rfl (by omega) ⟨[], ⟨rfl, rfl⟩, hc.st⟩) ?_
            refine RunD.op (det _) tab23 7 (fun f' L' w' hc => Op1.indexArr ty27 ty25 (hc.old (v := .pointer (some ⟨_, _, none⟩)) rfl rfl rfl) (hc.det (j := 5) rfl rfl rfl rfl) (by omega) (by omega) ⟨[], ⟨rfl, rfl⟩, hc.st⟩) ?_
            refine RunD.op (det _) tab23 8 (fun f' L' w' hc => Op1.loadA (vs := [.int .i32 _, .int .i32 _, .int .i32 _]) ty25 rfl (hc.det (j := 6) rfl rfl rfl rfl) rfl (cells_of_obj (n := 3) (hc.st.objL (List.mem_append_right _ (.tail _ (.head _)))) _ rfl) ⟨[], ⟨rfl, rfl⟩, hc.st⟩) ?_
            refine RunD.op (det _) tab23 9 (fun f' L' w' hc => Op1.loadA (vs := [.int .i32 _, .int .i32 _, .int .i32 _]) ty25 rfl (hc.old (v := .pointer (some ⟨_, _, none⟩)) rfl rfl rfl) rfl (cells_of_obj (n := 3) (hc.st.objL (List.mem_append_right _ (.head _))) _ rfl) ⟨[], ⟨rfl, rfl⟩, hc.st⟩) ?_
            refine RunD.fin followsMixed tab23 hst rfl (fun f24 w R27 hs25 hd26 hst => ?_)
            obtain ⟨h60_, r0⟩ := hd26 0 60 rfl rfl
            obtain ⟨h61_, r1⟩ := hd26 1 61 rfl rfl
            obtain ⟨h62_, r2⟩ := hd26 2 62 rfl rfl
            obtain ⟨h63_, r3⟩ := hd26 3 63 rfl rfl
            obtain ⟨h64_, r4⟩ := hd26 4 64 rfl rfl
            obtain ⟨h65_, r5⟩ := hd26 5 65 rfl rfl
            obtain ⟨h66_, r6⟩ := hd26 6 66 rfl rfl
            obtain ⟨h67_, r7⟩ := hd26 7 67 rfl rfl
            obtain ⟨h68_, r8⟩ := hd26 8 68 rfl rfl
            simp only [show List.range 9 = [0, 1, 2, 3, 4, 5, 6, 7, 8] from rfl, List.flatMap_cons, List.flatMap_nil, r0, r1, r2, r3, r4, r5, r6, r7, r8, List.nil_append, List.append_nil, List.cons_append] at hst
            refine RunL.slots (sl := [(1, .int .i64 _), (2, .int .i64 _), (3, .pointer (some ⟨_, _, none⟩)), (7, .pointer (some ⟨_, _, none⟩)), (8, .int .i64 _), (9, .int .i64 _), (10, .int .i64 _), (62, .agg #[.int .i32 _, .int .i32 _, .int .i32 _]), (67, .agg #[.int .i32 _, .int .i32 _, .int .i32 _]), (68, .agg #[.int .i32 _, .int .i32 _, .int .i32 _])]) ⟨(hs25 1 rfl).trans rfl, (hs25 2 rfl).trans rfl, (hs25 3 rfl).trans rfl, (hs25 7 rfl).trans rfl, (hs25 8 rfl).trans rfl, (hs25 9 rfl).trans rfl, (hs25 10 rfl).trans rfl, h62_, h67_, h68_, trivial⟩ ?_
            clear hs25 hd26 tab23
            refine RunL.cons (Op1.call3 (v1 := .agg #[.int .i32 _, .int .i32 _, .int .i32 _]) (v2 := .agg #[.int .i32 _, .int .i32 _, .int .i32 _]) (v3 := .agg #[.int .i32 _, .int .i32 _, .int .i32 _]) ent27 rfl rfl rfl rfl ((edge_side_mid _ _ _ _ _ _ _ _ _ _ hJ3).mono fun v w hp => ?_))
            obtain ⟨rfl, hp⟩ := hp
            replace hst := hst.keepc hp
            clear hp
            refine RunL.cons (Op1.assign (v := .int .i64 _) rfl ?_)
            refine RunL.nil ?_
            refine run_seq ?_
            refine Run.cutV hst (fun (p2 : Int) => [(8, .int .i64 p2)]) [1, 2, 3, 7, 9, 10, 11] (fun (p2 : Int) => 0 ≤ p2 ∧ p2 ≤ 2 ∧ ((p2 = p1 + 1 ∧ 0 < sideZ (clampZ bx) (clampZ by_) (clampZ cx) (clampZ cy) (16 * x + 8) (16 * y + 8)) ∨ (p2 = p1 ∧ ¬ 0 < sideZ (clampZ bx) (clampZ by_) (clampZ cx) (clampZ cy) (16 * x + 8) (16 * y + 8)))) (fun p2 f w kf30 hst hJ29 => ?_) (fun cut28 => ?_)
            · skip
              refine Run.slots (sl := [(1, .int .i64 _), (2, .int .i64 _), (3, .pointer (some ⟨_, _, none⟩)), (7, .pointer (some ⟨_, _, none⟩)), (9, .int .i64 _), (10, .int .i64 _), (11, .int .i64 _), (8, .int .i64 p2)]) ⟨(kf30.get 1 rfl).trans rfl, (kf30.get 2 rfl).trans rfl, (kf30.get 3 rfl).trans rfl, (kf30.get 7 rfl).trans rfl, (kf30.get 9 rfl).trans rfl, (kf30.get 10 rfl).trans rfl, (kf30.get 11 rfl).trans rfl, rfl, trivial⟩ ?_
              refine Run.cutV hst (fun (n2 : Int) => [(9, .int .i64 n2)]) [1, 2, 3, 7, 8, 10] (fun (n2 : Int) => 0 ≤ n2 ∧ n2 ≤ 2 ∧ ((n2 = n1 + 1 ∧ sideZ (clampZ bx) (clampZ by_) (clampZ cx) (clampZ cy) (16 * x + 8) (16 * y + 8) < 0) ∨ (n2 = n1 ∧ ¬ sideZ (clampZ bx) (clampZ by_) (clampZ cx) (clampZ cy) (16 * x + 8) (16 * y + 8) < 0))) (fun n2 f w kf33 hst hJ32 => ?_) (fun cut31 => ?_)
              · skip
                refine Run.slots (sl := [(1, .int .i64 _), (2, .int .i64 _), (3, .pointer (some ⟨_, _, none⟩)), (7, .pointer (some ⟨_, _, none⟩)), (8, .int .i64 _), (10, .int .i64 _), (9, .int .i64 n2)]) ⟨(kf33.get 1 rfl).trans rfl, (kf33.get 2 rfl).trans rfl, (kf33.get 3 rfl).trans rfl, (kf33.get 7 rfl).trans rfl, (kf33.get 8 rfl).trans rfl, (kf33.get 10 rfl).trans rfl, rfl, trivial⟩ ?_
                refine run_inBlock ?_
                refine run_region ?_
                refine RunL.cons (Op1.move (v := .int .i64 _) rfl ?_)
                refine RunL.cons (Op1.addN rfl rfl rfl (wrap_i64 (by omega) (by omega)) ?_)
                refine RunL.cons (Op1.assign (v := .int .i64 _) rfl ?_)
                refine RunL.nil ?_
                refine run_inLoop ?_
                refine run_seq ?_
                refine run_seq ?_
                refine run_region ?_
                refine RunL.cons (Op1.move (v := .int .i64 _) rfl ?_)
                refine RunL.cons (Op1.lss rfl rfl ?_)
                refine RunL.nil ?_
                refine run_cond_true (congrArg Value.bool (decide_eq_true (by decide))) ?_
                refine run_skip ?_
                refine run_seq ?_
                refine run_block ?_
                refine run_seq ?_
                refine RunD.start hst (bs := [0, 1, 3, 0, 8, 24, 56, 120, 0, 511, 1023]) (ds := [some 60, some 61, some 62, some 63, some 64, some 65, some 66, some 67, some 68, some 69, some 11]) ⟨by kernel_rfl, by kernel_rfl, by kernel_rfl⟩ (fun tab34 => ?_)
                refine RunD.op (det _) tab34 1 (fun f' L' w' hc => Op1.move (v := .int .i64 _) (hc.old (v := .int .i64 _) rfl rfl rfl) ⟨[], ⟨rfl, rfl⟩, hc.st⟩) ?_
                refine RunD.op (det _) tab34 2 (fun f' L' w' hc => Op1.indexArr ty27 ty25 (hc.old (v := .pointer (some ⟨_, _, none⟩)) rfl rfl rfl) (hc.det (j := 0) rfl rfl rfl rfl) (by omega) (by omega) ⟨[], ⟨rfl, rfl⟩, hc.st⟩) ?_
                refine RunD.op (det _) tab34 3 (fun f' L' w' hc => Op1.loadA (vs := [.int .i32 _, .int .i32 _, .int .i32 _]) ty25 rfl (hc.det (j := 1) rfl rfl rfl rfl) rfl (cells_of_obj (n := 3) (hc.st.objL (List.mem_append_right _ (.tail _ (.head _)))) _ rfl) ⟨[], ⟨rfl, rfl⟩, hc.st⟩) ?_
                refine RunD.op (det _) tab34 4 (fun f' L' w' hc => Op1.move (v := .int .i64 _) (hc.old (v := .int .i64 _) rfl rfl rfl) ⟨[], ⟨rfl, rfl⟩, hc.st⟩) ?_
                refine RunD.op (det _) tab34 5 (fun f' L' w' hc => Op1.addN (hc.det (j := 3) rfl rfl rfl rfl) rfl rfl (wrap_i64 (by omega) (by omega)) ⟨[], ⟨rfl, rfl⟩, hc.st⟩) ?_
                first | refine RunD.op (det _) tab34 6 (fun f' L' w' hc => Op1.remN (hc.det (j := 4) rfl rfl rfl rfl) rfl (by omega) (by omega) rfl ⟨[], ⟨rfl, rfl⟩, hc.st⟩) ?_ | refine RunD.op (det _) tab34 6 (fun f' L' w' hc => Op1.rem (hc.det (j := 4) rfl rfl rfl rfl) rfl (by omega) ⟨[], ⟨rfl, rfl⟩, hc.st⟩) ?_
                refine RunD.op (det _) tab34 7 (fun f' L' w' hc => Op1.indexArr ty27 ty25 (hc.old (v := .pointer (some ⟨_, _, none⟩)) rfl rfl rfl) (hc.det (j := 5) rfl rfl rfl rfl) (by omega) (by omega) ⟨[], ⟨rfl, rfl⟩, hc.st⟩) ?_
                refine RunD.op (det _) tab34 8 (fun f' L' w' hc => Op1.loadA (vs := [.int .i32 _, .int .i32 _, .int .i32 _]) ty25 rfl (hc.det (j := 6) rfl rfl rfl rfl) rfl (cells_of_obj (n := 3) (hc.st.objL (List.mem_append_right _ (.tail _ (.head _)))) _ rfl) ⟨[], ⟨rfl, rfl⟩, hc.st⟩) ?_
                refine RunD.op (det _) tab34 9 (fun f' L' w' hc => Op1.loadA (vs := [.int .i32 _, .int .i32 _, .int .i32 _]) ty25 rfl (hc.old (v := .pointer (some ⟨_, _, none⟩)) rfl rfl rfl) rfl (cells_of_obj (n := 3) (hc.st.objL (List.mem_append_right _ (.head _))) _ rfl) ⟨[], ⟨rfl, rfl⟩, hc.st⟩) ?_
                refine RunD.fin followsMixed tab34 hst rfl (fun f35 w R38 hs36 hd37 hst => ?_)
                obtain ⟨h60_, r0⟩ := hd37 0 60 rfl rfl
                obtain ⟨h61_, r1⟩ := hd37 1 61 rfl rfl
                obtain ⟨h62_, r2⟩ := hd37 2 62 rfl rfl
                obtain ⟨h63_, r3⟩ := hd37 3 63 rfl rfl
                obtain ⟨h64_, r4⟩ := hd37 4 64 rfl rfl
                obtain ⟨h65_, r5⟩ := hd37 5 65 rfl rfl
                obtain ⟨h66_, r6⟩ := hd37 6 66 rfl rfl
                obtain ⟨h67_, r7⟩ := hd37 7 67 rfl rfl
                obtain ⟨h68_, r8⟩ := hd37 8 68 rfl rfl
                simp only [show List.range 9 = [0, 1, 2, 3, 4, 5, 6, 7, 8] from rfl, List.flatMap_cons, List.flatMap_nil, r0, r1, r2, r3, r4, r5, r6, r7, r8, List.nil_append, List.append_nil, List.cons_append] at hst
                refine RunL.slots (sl := [(1, .int .i64 _), (2, .int .i64 _), (3, .pointer (some ⟨_, _, none⟩)), (7, .pointer (some ⟨_, _, none⟩)), (8, .int .i64 _), (9, .int .i64 _), (10, .int .i64 _), (62, .agg #[.int .i32 _, .int .i32 _, .int .i32 _]), (67, .agg #[.int .i32 _, .int .i32 _, .int .i32 _]), (68, .agg #[.int .i32 _, .int .i32 _, .int .i32 _])]) ⟨(hs36 1 rfl).trans rfl, (hs36 2 rfl).trans rfl, (hs36 3 rfl).trans rfl, (hs36 7 rfl).trans rfl, (hs36 8 rfl).trans rfl, (hs36 9 rfl).trans rfl, (hs36 10 rfl).trans rfl, h62_, h67_, h68_, trivial⟩ ?_
                clear hs36 hd37 tab34
                refine RunL.cons (Op1.call3 (v1 := .agg #[.int .i32 _, .int .i32 _, .int .i32 _]) (v2 := .agg #[.int .i32 _, .int .i32 _, .int .i32 _]) (v3 := .agg #[.int .i32 _, .int .i32 _, .int .i32 _]) ent27 rfl rfl rfl rfl ((edge_side_mid _ _ _ _ _ _ _ _ _ _ hJ3).mono fun v w hp => ?_))
                obtain ⟨rfl, hp⟩ := hp
                replace hst := hst.keepc hp
                clear hp
                refine RunL.cons (Op1.assign (v := .int .i64 _) rfl ?_)
                refine RunL.nil ?_
                refine run_seq ?_
                refine Run.cutV hst (fun (p3 : Int) => [(8, .int .i64 p3)]) [1, 2, 3, 7, 9, 10, 11] (fun (p3 : Int) => 0 ≤ p3 ∧ p3 ≤ 3 ∧ ((p3 = p2 + 1 ∧ 0 < sideZ (clampZ cx) (clampZ cy) (clampZ ax) (clampZ ay) (16 * x + 8) (16 * y + 8)) ∨ (p3 = p2 ∧ ¬ 0 < sideZ (clampZ cx) (clampZ cy) (clampZ ax) (clampZ ay) (16 * x + 8) (16 * y + 8)))) (fun p3 f w kf41 hst hJ40 => ?_) (fun cut39 => ?_)
                · skip
                  refine Run.slots (sl := [(1, .int .i64 _), (2, .int .i64 _), (3, .pointer (some ⟨_, _, none⟩)), (7, .pointer (some ⟨_, _, none⟩)), (9, .int .i64 _), (10, .int .i64 _), (11, .int .i64 _), (8, .int .i64 p3)]) ⟨(kf41.get 1 rfl).trans rfl, (kf41.get 2 rfl).trans rfl, (kf41.get 3 rfl).trans rfl, (kf41.get 7 rfl).trans rfl, (kf41.get 9 rfl).trans rfl, (kf41.get 10 rfl).trans rfl, (kf41.get 11 rfl).trans rfl, rfl, trivial⟩ ?_
                  refine Run.cutV hst (fun (n3 : Int) => [(9, .int .i64 n3)]) [1, 2, 3, 7, 8, 10] (fun (n3 : Int) => 0 ≤ n3 ∧ n3 ≤ 3 ∧ ((n3 = n2 + 1 ∧ sideZ (clampZ cx) (clampZ cy) (clampZ ax) (clampZ ay) (16 * x + 8) (16 * y + 8) < 0) ∨ (n3 = n2 ∧ ¬ sideZ (clampZ cx) (clampZ cy) (clampZ ax) (clampZ ay) (16 * x + 8) (16 * y + 8) < 0))) (fun n3 f w kf44 hst hJ43 => ?_) (fun cut42 => ?_)
                  · skip
                    refine Run.slots (sl := [(1, .int .i64 _), (2, .int .i64 _), (3, .pointer (some ⟨_, _, none⟩)), (7, .pointer (some ⟨_, _, none⟩)), (8, .int .i64 _), (10, .int .i64 _), (9, .int .i64 n3)]) ⟨(kf44.get 1 rfl).trans rfl, (kf44.get 2 rfl).trans rfl, (kf44.get 3 rfl).trans rfl, (kf44.get 7 rfl).trans rfl, (kf44.get 8 rfl).trans rfl, (kf44.get 10 rfl).trans rfl, rfl, trivial⟩ ?_
                    refine run_inBlock ?_
                    refine run_region ?_
                    refine RunL.cons (Op1.move (v := .int .i64 _) rfl ?_)
                    refine RunL.cons (Op1.addN rfl rfl rfl (wrap_i64 (by omega) (by omega)) ?_)
                    refine RunL.cons (Op1.assign (v := .int .i64 _) rfl ?_)
                    refine RunL.nil ?_
                    refine run_inLoop ?_
                    refine run_seq ?_
                    refine run_seq ?_
                    refine run_region ?_
                    refine RunL.cons (Op1.move (v := .int .i64 _) rfl ?_)
                    refine RunL.cons (Op1.lss rfl rfl ?_)
                    refine RunL.nil ?_
                    refine run_cond_false (congrArg Value.bool (decide_eq_false (by decide))) ?_
                    refine run_exit (id := 0) rfl ?_
                    refine run_seq ?_
                    refine run_region ?_
                    refine RunL.cons (Op1.loadA (vs := [.int .i32 _, .int .i32 _, .int .i32 _, .int .i32 _, .int .i32 _, .int .i32 _, .int .i32 _, .int .i32 _, .int .i32 _]) ty27 rfl rfl rfl (cells_of_obj (n := 9) (hst.objL (.tail _ (.head _))) _ rfl) ?_)
                    refine RunL.cons (Op1.move (v := .int .i64 _) rfl ?_)
                    refine RunL.cons (Op1.move (v := .int .i64 _) rfl ?_)
                    refine RunL.cons (Op1.call3 (v1 := .agg #[.int .i32 _, .int .i32 _, .int .i32 _, .int .i32 _, .int .i32 _, .int .i32 _, .int .i32 _, .int .i32 _, .int .i32 _]) (v2 := .int .i64 _) (v3 := .int .i64 _) ent34 rfl rfl rfl rfl ((edge_covers _ _ _ _ _ _ _ _ _ _ _ _).mono fun v w hp => ?_))
                    obtain ⟨rfl, hp⟩ := hp
                    replace hst := hst.keepc hp
                    clear hp
                    refine RunL.cons (Op1.assign (v := .bool _) rfl ?_)
                    refine RunL.nil ?_
                    refine run_seq ?_
                    refine run_region ?_
                    refine RunL.cons (Op1.move (v := .int .i64 _) rfl ?_)
                    refine RunL.cons (Op1.lss rfl rfl ?_)
                    refine RunL.cons (Op1.move (v := .bool _) rfl ?_)
                    refine RunL.splitD (d := 84) rfl (fun g45 => ?_) (fun g45 => ?_)
                    · skip
                      refine RunL.omit (t := 84) rfl (congrArg Value.bool (decide_eq_true g45)) rfl ?_
                      refine RunL.cons (Op1.pickT (u := .bool _) (congrArg Value.bool (decide_eq_true g45)) rfl ?_)
                      refine RunL.cons (Op1.move (v := .bool _) rfl ?_)
                      refine RunL.take (t := 87) rfl (congrArg Value.bool (rfl : true = _)) (Op1.move (v := .int .i64 _) rfl ?_)
                      refine RunL.take (t := 87) rfl (congrArg Value.bool (rfl : true = _)) (Op1.eql rfl rfl ?_)
                      refine RunL.take (t := 87) rfl (congrArg Value.bool (rfl : true = _)) (Op1.move (v := .bool _) rfl ?_)
                      refine RunL.splitD (d := 90) rfl (fun g46 => ?_) (fun g46 => ?_)
                      · skip
                        refine RunL.omit (t := 90) rfl (congrArg Value.bool (decide_eq_true g46)) rfl ?_
                        refine RunL.omit (t := 90) rfl (congrArg Value.bool (decide_eq_true g46)) rfl ?_
                        refine RunL.take (t := 87) rfl (congrArg Value.bool (rfl : true = _)) (Op1.pickT (u := .bool _) (congrArg Value.bool (decide_eq_true g46)) rfl ?_)
                        refine RunL.cons (Op1.pickT (u := .bool _) (congrArg Value.bool (rfl : true = _)) rfl ?_)
                        refine RunL.cons (Op1.assign (v := .bool _) rfl ?_)
                        refine RunL.nil ?_
                        refine run_ret1 Try.func11 rfl (RV.tmp (v := .bool _) rfl) ?_
                        exact ⟨rfl, hst.pure⟩
                      · skip
                        refine RunL.take (t := 90) rfl (congrArg Value.bool (decide_eq_false g46)) (Op1.move (v := .bool _) rfl ?_)
                        refine RunL.take (t := 90) rfl (congrArg Value.bool (decide_eq_false g46)) (Op1.not rfl ?_)
                        refine RunL.take (t := 87) rfl (congrArg Value.bool (rfl : true = _)) (Op1.pickF (u := .bool _) (congrArg Value.bool (decide_eq_false g46)) rfl ?_)
                        refine RunL.cons (Op1.pickT (u := .bool _) (congrArg Value.bool (rfl : true = _)) rfl ?_)
                        refine RunL.cons (Op1.assign (v := .bool _) rfl ?_)
                        refine RunL.nil ?_
                        refine run_ret1 Try.func11 rfl (RV.tmp (v := .bool _) rfl) ?_
                        exact ⟨congrArg Value.bool (by rw [within_out hJ3 hJ6 (by omega)]; rfl), hst.pure⟩
                    · skip
                      refine RunL.take (t := 84) rfl (congrArg Value.bool (decide_eq_false g45)) (Op1.move (v := .bool _) rfl ?_)
                      refine RunL.cons (Op1.pickF (u := .bool _) (congrArg Value.bool (decide_eq_false g45)) rfl ?_)
                      refine RunL.cons (Op1.move (v := .bool _) rfl ?_)
                      refine RunL.split (d := 87) rfl (fun g47 => ?_) (fun g47 => ?_)
                      · skip
                        refine RunL.take (t := 87) rfl (congrArg Value.bool g47) (Op1.move (v := .int .i64 _) rfl ?_)
                        refine RunL.take (t := 87) rfl (congrArg Value.bool g47) (Op1.eql rfl rfl ?_)
                        refine RunL.take (t := 87) rfl (congrArg Value.bool g47) (Op1.move (v := .bool _) rfl ?_)
                        refine RunL.splitD (d := 90) rfl (fun g48 => ?_) (fun g48 => ?_)
                        · skip
                          refine RunL.omit (t := 90) rfl (congrArg Value.bool (decide_eq_true g48)) rfl ?_
                          refine RunL.omit (t := 90) rfl (congrArg Value.bool (decide_eq_true g48)) rfl ?_
                          refine RunL.take (t := 87) rfl (congrArg Value.bool g47) (Op1.pickT (u := .bool _) (congrArg Value.bool (decide_eq_true g48)) rfl ?_)
                          refine RunL.cons (Op1.pickT (u := .bool _) (congrArg Value.bool g47) rfl ?_)
                          refine RunL.cons (Op1.assign (v := .bool _) rfl ?_)
                          refine RunL.nil ?_
                          refine run_ret1 Try.func11 rfl (RV.tmp (v := .bool _) rfl) ?_
                          exact ⟨rfl, hst.pure⟩
                        · skip
                          refine RunL.take (t := 90) rfl (congrArg Value.bool (decide_eq_false g48)) (Op1.move (v := .bool _) rfl ?_)
                          refine RunL.take (t := 90) rfl (congrArg Value.bool (decide_eq_false g48)) (Op1.not rfl ?_)
                          refine RunL.take (t := 87) rfl (congrArg Value.bool g47) (Op1.pickF (u := .bool _) (congrArg Value.bool (decide_eq_false g48)) rfl ?_)
                          refine RunL.cons (Op1.pickT (u := .bool _) (congrArg Value.bool g47) rfl ?_)
                          refine RunL.cons (Op1.assign (v := .bool _) rfl ?_)
                          refine RunL.nil ?_
                          refine run_ret1 Try.func11 rfl (RV.tmp (v := .bool _) rfl) ?_
                          exact ⟨congrArg Value.bool (by rw [within_out hJ3 hJ6 (by omega)]; rfl), hst.pure⟩
                      · skip
                        exfalso
                        rw [within_in hJ3 hJ6 (by omega) (by omega) (by omega)] at g47; cases g47
                  · skip
                    refine run_seq ?_
                    refine run_region ?_
                    refine RunL.cons (Op1.move (v := .int .i64 _) rfl ?_)
                    refine RunL.cons (Op1.lss rfl rfl ?_)
                    refine RunL.nil ?_
                    refine run_cond_dec rfl (fun g49 => ?_) (fun g49 => ?_)
                    · skip
                      refine run_region ?_
                      refine RunL.cons (Op1.move (v := .int .i64 _) rfl ?_)
                      refine RunL.cons (Op1.addN rfl rfl rfl (wrap_i64 (by omega) (by omega)) ?_)
                      refine RunL.cons (Op1.assign (v := .int .i64 _) rfl ?_)
                      refine RunL.nil ?_
                      exact cut42 (n2 + 1) _ w hst (⟨by omega, by omega, .inl ⟨rfl, g49⟩⟩) ⟨rfl, rfl, rfl, rfl, rfl, rfl, trivial⟩ ⟨rfl, trivial⟩
                    · skip
                      refine run_skip ?_
                      exact cut42 (n2) _ w hst (⟨by omega, by omega, .inr ⟨rfl, g49⟩⟩) ⟨rfl, rfl, rfl, rfl, rfl, rfl, trivial⟩ ⟨rfl, trivial⟩
                · skip
                  refine run_seq ?_
                  refine run_region ?_
                  refine RunL.cons (Op1.move (v := .int .i64 _) rfl ?_)
                  refine RunL.cons (Op1.gtr rfl rfl ?_)
                  refine RunL.nil ?_
                  refine run_cond_dec rfl (fun g50 => ?_) (fun g50 => ?_)
                  · skip
                    refine run_region ?_
                    refine RunL.cons (Op1.move (v := .int .i64 _) rfl ?_)
                    refine RunL.cons (Op1.addN rfl rfl rfl (wrap_i64 (by omega) (by omega)) ?_)
                    refine RunL.cons (Op1.assign (v := .int .i64 _) rfl ?_)
                    refine RunL.nil ?_
                    exact cut39 (p2 + 1) _ w hst (⟨by omega, by omega, .inl ⟨rfl, g50⟩⟩) ⟨rfl, rfl, rfl, rfl, rfl, rfl, rfl, trivial⟩ ⟨rfl, trivial⟩
                  · skip
                    refine run_skip ?_
                    exact cut39 (p2) _ w hst (⟨by omega, by omega, .inr ⟨rfl, g50⟩⟩) ⟨rfl, rfl, rfl, rfl, rfl, rfl, rfl, trivial⟩ ⟨rfl, trivial⟩
              · skip
                refine run_seq ?_
                refine run_region ?_
                refine RunL.cons (Op1.move (v := .int .i64 _) rfl ?_)
                refine RunL.cons (Op1.lss rfl rfl ?_)
                refine RunL.nil ?_
                refine run_cond_dec rfl (fun g51 => ?_) (fun g51 => ?_)
                · skip
                  refine run_region ?_
                  refine RunL.cons (Op1.move (v := .int .i64 _) rfl ?_)
                  refine RunL.cons (Op1.addN rfl rfl rfl (wrap_i64 (by omega) (by omega)) ?_)
                  refine RunL.cons (Op1.assign (v := .int .i64 _) rfl ?_)
                  refine RunL.nil ?_
                  exact cut31 (n1 + 1) _ w hst (⟨by omega, by omega, .inl ⟨rfl, g51⟩⟩) ⟨rfl, rfl, rfl, rfl, rfl, rfl, trivial⟩ ⟨rfl, trivial⟩
                · skip
                  refine run_skip ?_
                  exact cut31 (n1) _ w hst (⟨by omega, by omega, .inr ⟨rfl, g51⟩⟩) ⟨rfl, rfl, rfl, rfl, rfl, rfl, trivial⟩ ⟨rfl, trivial⟩
            · skip
              refine run_seq ?_
              refine run_region ?_
              refine RunL.cons (Op1.move (v := .int .i64 _) rfl ?_)
              refine RunL.cons (Op1.gtr rfl rfl ?_)
              refine RunL.nil ?_
              refine run_cond_dec rfl (fun g52 => ?_) (fun g52 => ?_)
              · skip
                refine run_region ?_
                refine RunL.cons (Op1.move (v := .int .i64 _) rfl ?_)
                refine RunL.cons (Op1.addN rfl rfl rfl (wrap_i64 (by omega) (by omega)) ?_)
                refine RunL.cons (Op1.assign (v := .int .i64 _) rfl ?_)
                refine RunL.nil ?_
                exact cut28 (p1 + 1) _ w hst (⟨by omega, by omega, .inl ⟨rfl, g52⟩⟩) ⟨rfl, rfl, rfl, rfl, rfl, rfl, rfl, trivial⟩ ⟨rfl, trivial⟩
              · skip
                refine run_skip ?_
                exact cut28 (p1) _ w hst (⟨by omega, by omega, .inr ⟨rfl, g52⟩⟩) ⟨rfl, rfl, rfl, rfl, rfl, rfl, rfl, trivial⟩ ⟨rfl, trivial⟩
          · skip
            refine run_seq ?_
            refine run_region ?_
            refine RunL.cons (Op1.move (v := .int .i64 _) rfl ?_)
            refine RunL.cons (Op1.lss rfl rfl ?_)
            refine RunL.nil ?_
            refine run_cond_dec rfl (fun g53 => ?_) (fun g53 => ?_)
            · skip
              refine run_region ?_
              refine RunL.cons (Op1.move (v := .int .i64 _) rfl ?_)
              refine RunL.cons (Op1.addN rfl rfl rfl (wrap_i64 (by omega) (by omega)) ?_)
              refine RunL.cons (Op1.assign (v := .int .i64 _) rfl ?_)
              refine RunL.nil ?_
              exact cut20 (0 + 1) _ w hst (⟨by omega, by omega, .inl ⟨rfl, g53⟩⟩) ⟨rfl, rfl, rfl, rfl, rfl, rfl, trivial⟩ ⟨rfl, trivial⟩
            · skip
              refine run_skip ?_
              exact cut20 (0) _ w hst (⟨by omega, by omega, .inr ⟨rfl, g53⟩⟩) ⟨rfl, rfl, rfl, rfl, rfl, rfl, trivial⟩ ⟨rfl, trivial⟩
        · skip
          refine run_seq ?_
          refine run_region ?_
          refine RunL.cons (Op1.move (v := .int .i64 _) rfl ?_)
          refine RunL.cons (Op1.gtr rfl rfl ?_)
          refine RunL.nil ?_
          refine run_cond_dec rfl (fun g54 => ?_) (fun g54 => ?_)
          · skip
            refine run_region ?_
            refine RunL.cons (Op1.move (v := .int .i64 _) rfl ?_)
            refine RunL.cons (Op1.addN rfl rfl rfl (wrap_i64 (by omega) (by omega)) ?_)
            refine RunL.cons (Op1.assign (v := .int .i64 _) rfl ?_)
            refine RunL.nil ?_
            exact cut17 (0 + 1) _ w hst (⟨by omega, by omega, .inl ⟨rfl, g54⟩⟩) ⟨rfl, rfl, rfl, rfl, rfl, rfl, rfl, trivial⟩ ⟨rfl, trivial⟩
          · skip
            refine run_skip ?_
            exact cut17 (0) _ w hst (⟨by omega, by omega, .inr ⟨rfl, g54⟩⟩) ⟨rfl, rfl, rfl, rfl, rfl, rfl, rfl, trivial⟩ ⟨rfl, trivial⟩
      · skip
        refine run_seq ?_
        refine run_region ?_
        refine RunL.cons (Op1.loadA (vs := [.int .i32 _, .int .i32 _, .int .i32 _, .int .i32 _, .int .i32 _, .int .i32 _, .int .i32 _, .int .i32 _, .int .i32 _]) ty27 rfl rfl rfl (cells_of_obj (n := 9) (hst.objL (.head _)) _ rfl) ?_)
        refine RunL.cons (Op1.call1 (v1 := .agg #[.int .i32 _, .int .i32 _, .int .i32 _, .int .i32 _, .int .i32 _, .int .i32 _, .int .i32 _, .int .i32 _, .int .i32 _]) ent23 rfl rfl ((edge_area _ _ _ _ _ _ _ _ _ _).mono fun v w hp => ?_))
        obtain ⟨rfl, hp⟩ := hp
        replace hst := hst.keepc hp
        clear hp
        refine RunL.cons (Op1.leq rfl rfl ?_)
        refine RunL.nil ?_
        refine run_cond_dec rfl (fun g55 => ?_) (fun g55 => ?_)
        · skip
          refine run_seq ?_
          refine run_region ?_
          refine RunL.cons (Op1.loadA (vs := [.int .i32 _, .int .i32 _, .int .i32 _, .int .i32 _, .int .i32 _, .int .i32 _, .int .i32 _, .int .i32 _, .int .i32 _]) ty27 rfl rfl rfl (cells_of_obj (n := 9) (hst.objL (.head _)) _ rfl) ?_)
          refine RunL.cons (Op1.call1 (v1 := .agg #[.int .i32 _, .int .i32 _, .int .i32 _, .int .i32 _, .int .i32 _, .int .i32 _, .int .i32 _, .int .i32 _, .int .i32 _]) ent23 rfl rfl ((edge_area _ _ _ _ _ _ _ _ _ _).mono fun v w hp => ?_))
          obtain ⟨rfl, hp⟩ := hp
          replace hst := hst.keepc hp
          clear hp
          refine RunL.cons (Op1.lss rfl rfl ?_)
          refine RunL.cons (Op1.move (v := .bool _) rfl ?_)
          refine RunL.splitD (d := 40) rfl (fun g56 => ?_) (fun g56 => ?_)
          · skip
            refine RunL.omit (t := 40) rfl (congrArg Value.bool (decide_eq_true g56)) rfl ?_
            refine RunL.omit (t := 40) rfl (congrArg Value.bool (decide_eq_true g56)) rfl ?_
            refine RunL.omit (t := 40) rfl (congrArg Value.bool (decide_eq_true g56)) rfl ?_
            refine RunL.omit (t := 40) rfl (congrArg Value.bool (decide_eq_true g56)) rfl ?_
            refine RunL.omit (t := 40) rfl (congrArg Value.bool (decide_eq_true g56)) rfl ?_
            refine RunL.cons (Op1.pickT (u := .bool _) (congrArg Value.bool (decide_eq_true g56)) rfl ?_)
            refine RunL.cons (Op1.assign (v := .bool _) rfl ?_)
            refine RunL.nil ?_
            refine run_ret1 Try.func11 rfl (RV.tmp (v := .bool _) rfl) ?_
            exact ⟨rfl, hst.pure⟩
          · skip
            refine RunL.take (t := 40) rfl (congrArg Value.bool (decide_eq_false g56)) (Op1.loadA (vs := [.int .i32 _, .int .i32 _, .int .i32 _, .int .i32 _, .int .i32 _, .int .i32 _, .int .i32 _, .int .i32 _, .int .i32 _]) ty27 rfl rfl rfl (cells_of_obj (n := 9) (hst.objL (.head _)) _ rfl) ?_)
            refine RunL.take (t := 40) rfl (congrArg Value.bool (decide_eq_false g56)) (Op1.move (v := .int .i64 _) rfl ?_)
            refine RunL.take (t := 40) rfl (congrArg Value.bool (decide_eq_false g56)) (Op1.move (v := .int .i64 _) rfl ?_)
            refine RunL.take (t := 40) rfl (congrArg Value.bool (decide_eq_false g56)) (Op1.call3 (v1 := .agg #[.int .i32 _, .int .i32 _, .int .i32 _, .int .i32 _, .int .i32 _, .int .i32 _, .int .i32 _, .int .i32 _, .int .i32 _]) (v2 := .int .i64 _) (v3 := .int .i64 _) ent34 rfl rfl rfl rfl ((edge_covers _ _ _ _ _ _ _ _ _ _ _ _).mono fun v w hp => ?_))
            obtain ⟨rfl, hp⟩ := hp
            replace hst := hst.keepc hp
            clear hp
            refine RunL.take (t := 40) rfl (congrArg Value.bool (decide_eq_false g56)) (Op1.not rfl ?_)
            refine RunL.cons (Op1.pickF (u := .bool _) (congrArg Value.bool (decide_eq_false g56)) rfl ?_)
            refine RunL.cons (Op1.assign (v := .bool _) rfl ?_)
            refine RunL.nil ?_
            refine run_ret1 Try.func11 rfl (RV.tmp (v := .bool _) rfl) ?_
            exact ⟨congrArg Value.bool (by rw [coversZ_zero _ _ (by omega)]; rfl), hst.pure⟩
        · skip
          refine run_skip ?_
          exact cut5 _ w hst (by omega) ⟨rfl, rfl, rfl, trivial⟩
    · skip
      refine run_seq ?_
      refine run_region ?_
      refine RunL.cons (Op1.move (v := .int .i64 _) rfl ?_)
      refine RunL.cons (Op1.lss rfl rfl ?_)
      refine RunL.cons (Op1.move (v := .bool _) rfl ?_)
      refine RunL.splitD (d := 17) rfl (fun g57 => ?_) (fun g57 => ?_)
      · skip
        refine RunL.omit (t := 17) rfl (congrArg Value.bool (decide_eq_true g57)) rfl ?_
        refine RunL.omit (t := 17) rfl (congrArg Value.bool (decide_eq_true g57)) rfl ?_
        refine RunL.cons (Op1.pickT (u := .bool _) (congrArg Value.bool (decide_eq_true g57)) rfl ?_)
        refine RunL.cons (Op1.move (v := .bool _) rfl ?_)
        refine RunL.omit (t := 21) rfl (congrArg Value.bool (rfl : true = _)) rfl ?_
        refine RunL.omit (t := 21) rfl (congrArg Value.bool (rfl : true = _)) rfl ?_
        refine RunL.cons (Op1.pickT (u := .bool _) (congrArg Value.bool (rfl : true = _)) rfl ?_)
        refine RunL.cons (Op1.move (v := .bool _) rfl ?_)
        refine RunL.omit (t := 25) rfl (congrArg Value.bool (rfl : true = _)) rfl ?_
        refine RunL.omit (t := 25) rfl (congrArg Value.bool (rfl : true = _)) rfl ?_
        refine RunL.cons (Op1.pickT (u := .bool _) (congrArg Value.bool (rfl : true = _)) rfl ?_)
        refine RunL.nil ?_
        refine run_cond_true (congrArg Value.bool (rfl : true = _)) ?_
        refine run_seq ?_
        refine run_region ?_
        refine RunL.cons (Op1.loadA (vs := [.int .i32 _, .int .i32 _, .int .i32 _, .int .i32 _, .int .i32 _, .int .i32 _, .int .i32 _, .int .i32 _, .int .i32 _]) ty27 rfl rfl rfl (cells_of_obj (n := 9) (hst.objL (.head _)) _ rfl) ?_)
        refine RunL.cons (Op1.move (v := .int .i64 _) rfl ?_)
        refine RunL.cons (Op1.move (v := .int .i64 _) rfl ?_)
        refine RunL.cons (Op1.call3 (v1 := .agg #[.int .i32 _, .int .i32 _, .int .i32 _, .int .i32 _, .int .i32 _, .int .i32 _, .int .i32 _, .int .i32 _, .int .i32 _]) (v2 := .int .i64 _) (v3 := .int .i64 _) ent34 rfl rfl rfl rfl ((edge_covers _ _ _ _ _ _ _ _ _ _ _ _).mono fun v w hp => ?_))
        obtain ⟨rfl, hp⟩ := hp
        replace hst := hst.keepc hp
        clear hp
        refine RunL.cons (Op1.not rfl ?_)
        refine RunL.cons (Op1.assign (v := .bool _) rfl ?_)
        refine RunL.nil ?_
        refine run_ret1 Try.func11 rfl (RV.tmp (v := .bool _) rfl) ?_
        exact ⟨congrArg Value.bool (by rw [coversZ_out _ _ _ _ _ _ (by omega)]; rfl), hst.pure⟩
      · skip
        refine RunL.take (t := 17) rfl (congrArg Value.bool (decide_eq_false g57)) (Op1.move (v := .int .i64 _) rfl ?_)
        refine RunL.take (t := 17) rfl (congrArg Value.bool (decide_eq_false g57)) (Op1.lss rfl rfl ?_)
        refine RunL.cons (Op1.pickF (u := .bool _) (congrArg Value.bool (decide_eq_false g57)) rfl ?_)
        refine RunL.cons (Op1.move (v := .bool _) rfl ?_)
        refine RunL.splitD (d := 21) rfl (fun g58 => ?_) (fun g58 => ?_)
        · skip
          refine RunL.omit (t := 21) rfl (congrArg Value.bool (decide_eq_true g58)) rfl ?_
          refine RunL.omit (t := 21) rfl (congrArg Value.bool (decide_eq_true g58)) rfl ?_
          refine RunL.cons (Op1.pickT (u := .bool _) (congrArg Value.bool (decide_eq_true g58)) rfl ?_)
          refine RunL.cons (Op1.move (v := .bool _) rfl ?_)
          refine RunL.omit (t := 25) rfl (congrArg Value.bool (rfl : true = _)) rfl ?_
          refine RunL.omit (t := 25) rfl (congrArg Value.bool (rfl : true = _)) rfl ?_
          refine RunL.cons (Op1.pickT (u := .bool _) (congrArg Value.bool (rfl : true = _)) rfl ?_)
          refine RunL.nil ?_
          refine run_cond_true (congrArg Value.bool (rfl : true = _)) ?_
          refine run_seq ?_
          refine run_region ?_
          refine RunL.cons (Op1.loadA (vs := [.int .i32 _, .int .i32 _, .int .i32 _, .int .i32 _, .int .i32 _, .int .i32 _, .int .i32 _, .int .i32 _, .int .i32 _]) ty27 rfl rfl rfl (cells_of_obj (n := 9) (hst.objL (.head _)) _ rfl) ?_)
          refine RunL.cons (Op1.move (v := .int .i64 _) rfl ?_)
          refine RunL.cons (Op1.move (v := .int .i64 _) rfl ?_)
          refine RunL.cons (Op1.call3 (v1 := .agg #[.int .i32 _, .int .i32 _, .int .i32 _, .int .i32 _, .int .i32 _, .int .i32 _, .int .i32 _, .int .i32 _, .int .i32 _]) (v2 := .int .i64 _) (v3 := .int .i64 _) ent34 rfl rfl rfl rfl ((edge_covers _ _ _ _ _ _ _ _ _ _ _ _).mono fun v w hp => ?_))
          obtain ⟨rfl, hp⟩ := hp
          replace hst := hst.keepc hp
          clear hp
          refine RunL.cons (Op1.not rfl ?_)
          refine RunL.cons (Op1.assign (v := .bool _) rfl ?_)
          refine RunL.nil ?_
          refine run_ret1 Try.func11 rfl (RV.tmp (v := .bool _) rfl) ?_
          exact ⟨congrArg Value.bool (by rw [coversZ_out _ _ _ _ _ _ (by omega)]; rfl), hst.pure⟩
        · skip
          refine RunL.take (t := 21) rfl (congrArg Value.bool (decide_eq_false g58)) (Op1.move (v := .int .i64 _) rfl ?_)
          refine RunL.take (t := 21) rfl (congrArg Value.bool (decide_eq_false g58)) (Op1.geq rfl rfl ?_)
          refine RunL.cons (Op1.pickF (u := .bool _) (congrArg Value.bool (decide_eq_false g58)) rfl ?_)
          refine RunL.cons (Op1.move (v := .bool _) rfl ?_)
          refine RunL.splitD (d := 25) rfl (fun g59 => ?_) (fun g59 => ?_)
          · skip
            refine RunL.omit (t := 25) rfl (congrArg Value.bool (decide_eq_true g59)) rfl ?_
            refine RunL.omit (t := 25) rfl (congrArg Value.bool (decide_eq_true g59)) rfl ?_
            refine RunL.cons (Op1.pickT (u := .bool _) (congrArg Value.bool (decide_eq_true g59)) rfl ?_)
            refine RunL.nil ?_
            refine run_cond_true (congrArg Value.bool (rfl : true = _)) ?_
            refine run_seq ?_
            refine run_region ?_
            refine RunL.cons (Op1.loadA (vs := [.int .i32 _, .int .i32 _, .int .i32 _, .int .i32 _, .int .i32 _, .int .i32 _, .int .i32 _, .int .i32 _, .int .i32 _]) ty27 rfl rfl rfl (cells_of_obj (n := 9) (hst.objL (.head _)) _ rfl) ?_)
            refine RunL.cons (Op1.move (v := .int .i64 _) rfl ?_)
            refine RunL.cons (Op1.move (v := .int .i64 _) rfl ?_)
            refine RunL.cons (Op1.call3 (v1 := .agg #[.int .i32 _, .int .i32 _, .int .i32 _, .int .i32 _, .int .i32 _, .int .i32 _, .int .i32 _, .int .i32 _, .int .i32 _]) (v2 := .int .i64 _) (v3 := .int .i64 _) ent34 rfl rfl rfl rfl ((edge_covers _ _ _ _ _ _ _ _ _ _ _ _).mono fun v w hp => ?_))
            obtain ⟨rfl, hp⟩ := hp
            replace hst := hst.keepc hp
            clear hp
            refine RunL.cons (Op1.not rfl ?_)
            refine RunL.cons (Op1.assign (v := .bool _) rfl ?_)
            refine RunL.nil ?_
            refine run_ret1 Try.func11 rfl (RV.tmp (v := .bool _) rfl) ?_
            exact ⟨congrArg Value.bool (by rw [coversZ_out _ _ _ _ _ _ (by omega)]; rfl), hst.pure⟩
          · skip
            refine RunL.take (t := 25) rfl (congrArg Value.bool (decide_eq_false g59)) (Op1.move (v := .int .i64 _) rfl ?_)
            refine RunL.take (t := 25) rfl (congrArg Value.bool (decide_eq_false g59)) (Op1.geq rfl rfl ?_)
            refine RunL.cons (Op1.pickF (u := .bool _) (congrArg Value.bool (decide_eq_false g59)) rfl ?_)
            refine RunL.nil ?_
            refine run_cond_dec rfl (fun g60 => ?_) (fun g60 => ?_)
            · skip
              refine run_seq ?_
              refine run_region ?_
              refine RunL.cons (Op1.loadA (vs := [.int .i32 _, .int .i32 _, .int .i32 _, .int .i32 _, .int .i32 _, .int .i32 _, .int .i32 _, .int .i32 _, .int .i32 _]) ty27 rfl rfl rfl (cells_of_obj (n := 9) (hst.objL (.head _)) _ rfl) ?_)
              refine RunL.cons (Op1.move (v := .int .i64 _) rfl ?_)
              refine RunL.cons (Op1.move (v := .int .i64 _) rfl ?_)
              refine RunL.cons (Op1.call3 (v1 := .agg #[.int .i32 _, .int .i32 _, .int .i32 _, .int .i32 _, .int .i32 _, .int .i32 _, .int .i32 _, .int .i32 _, .int .i32 _]) (v2 := .int .i64 _) (v3 := .int .i64 _) ent34 rfl rfl rfl rfl ((edge_covers _ _ _ _ _ _ _ _ _ _ _ _).mono fun v w hp => ?_))
              obtain ⟨rfl, hp⟩ := hp
              replace hst := hst.keepc hp
              clear hp
              refine RunL.cons (Op1.not rfl ?_)
              refine RunL.cons (Op1.assign (v := .bool _) rfl ?_)
              refine RunL.nil ?_
              refine run_ret1 Try.func11 rfl (RV.tmp (v := .bool _) rfl) ?_
              exact ⟨congrArg Value.bool (by rw [coversZ_out _ _ _ _ _ _ (by omega)]; rfl), hst.pure⟩
            · skip
              refine run_skip ?_
              exact cut2 _ w hst (by omega) ⟨rfl, rfl, rfl, trivial⟩

end Go.SK
