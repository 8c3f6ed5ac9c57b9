/-
  Walks of functions, and of the laws over them.
-/
import Derived.Test.YtheckaonphmmiaaSkGrP
import Derived.Test.YtheckaonphmmiaaSkR2GrC
import Derived.Test.YtheckaonphmmiaaSkR2GrDF
set_option linter.unusedVariables false
set_option linter.unusedSimpArgs false
namespace Go.SK
open Go Go.Proofs
open Go.RowKit
theorem R2gr_Enum (c n : Int) (h0 : 0 ≤ c) (h1 : c ≤ 255) (w : World) : Ret Try.prog 15 #[.int .u8 c, .int .u32 n] w (fun v w' => v = nameV (namesL.find? (enN c n)) ∧ St w NoM [] [] w') := by
  refine Ret.enter (args := [.int .u8 c, .int .u32 n]) Try.func15 rfl rfl rfl ?_
  have hst := St.init w
  refine run_seq ?_
  refine run_region ?_
  refine RunL.cons (Op1.box (v := .int .u32 _) hst rfl rfl fun w b3 hst => ?_)
  refine RunL.cons (Op1.alloc hst ty9 fun w b4 hst => ?_)
  refine RunL.cons (Op1.alloc hst ty4 fun w b5 hst => ?_)
  refine RunL.nil ?_
  refine run_seq ?_
  refine run_seq ?_
  refine run_region ?_
  refine RunL.cons (Op1.move (v := .int .u8 _) rfl ?_)
  refine RunL.cons (Op1.call1 (v1 := .int .u8 _) ent13 rfl rfl ((R2gr_Enums _ _).mono fun v w hp => ?_))
  obtain ⟨bc, rfl, hp⟩ := hp
  replace hst := hst.call0 hp
  clear hp
  refine RunL.nil ?_
  refine run_block ?_
  replace hst := hst.addProp (p := ((enumsL c).drop 0).find? (fun x => decide (x.n = n)) = (enumsL c).find? (fun x => decide (x.n = n))) (rfl)
  replace hst := hst.pick (.cons (.here) (.cons (.there (.there (.here))) (.cons (.there (.here)) (.cons (.here) (.cons (.here) .nil)))))
  refine run_rangeIter (L1 := [_, _, _]) (L2 := [_, _]) (item := (fun j => [.int .u32 ((enumsL c).getD j zeroN).n, str ((enumsL c).getD j zeroN).name])) (FD := (· = bc)) (fun i => [Res.prop (((enumsL c).drop i).find? (fun x => decide (x.n = n)) = (enumsL c).find? (fun x => decide (x.n = n))), Res.row b4 9 [str []], Res.row b5 4 [.bool false]]) (fun i => [Res.prop ((enumsL c).find? (fun x => decide (x.n = n)) = some ((enumsL c).getD i zeroN)), Res.row b4 9 [str ((enumsL c).getD i zeroN).name], Res.row b5 4 [.bool true]]) (fun _ => .ret) hst rfl rfl ent30 (fun b hb => .inl (by subst hb; exact ⟨_, (.head _), rfl⟩)) (fun w1 hw1 => R2enums_iter c h0 h1 bc w1 (hw1.hL _ (.tail _ (.tail _ (.tail _ (.head _)))))) (fun _ _ => rfl) ?_ ?_ ?_
  · intro i hi w bl br lp hlp hst hk
    have hprop : ((enumsL c).drop i).find? (fun x => decide (x.n = n)) = (enumsL c).find? (fun x => decide (x.n = n)) := hst.hL _ (.tail _ (.tail _ (.head _)))
    refine run_seq ?_
    refine run_region ?_
    refine RunL.cons (Op1.assign (v := .int .u32 _) rfl ?_)
    refine RunL.nil ?_
    refine run_region ?_
    refine RunL.cons (Op1.assign (v := str _) rfl ?_)
    refine RunL.nil ?_
    refine run_beginR hlp hst (.here) fun w hst => ?_
    refine run_block ?_
    refine run_seq ?_
    refine run_region ?_
    refine RunL.cons (Op1.move (v := .int .u32 _) rfl ?_)
    refine RunL.cons (Op1.load1 (v := .int .u32 _) ty24 rfl rfl (hst.cellD (.tail _ (.head _)) rfl) ?_)
    refine RunL.cons (Op1.eql rfl rfl ?_)
    refine RunL.nil ?_
    refine run_cond_dec rfl (fun g1 => ?_) (fun g1 => ?_)
    · skip
      refine run_seq ?_
      refine run_region ?_
      refine RunL.cons (Op1.move (v := str _) rfl ?_)
      refine RunL.cons (Op1.store (v := str _) hst ty9 rfl rfl rfl rfl rfl (.there (.there (.there (.here)))) (by repeat (first | exact Put.nil | apply Put.put | apply Put.skip)) fun w hst => ?_)
      refine RunL.cons (Op1.store (v := .bool _) hst ty4 rfl rfl rfl rfl rfl (.there (.there (.there (.there (.here))))) (by repeat (first | exact Put.nil | apply Put.put | apply Put.skip)) fun w hst => ?_)
      refine RunL.nil ?_
      refine run_retR hst (.here) fun w hst => ?_
      replace hst := hst.addProp (p := (enumsL c).find? (fun x => decide (x.n = n)) = some ((enumsL c).getD i zeroN)) (find_hit (d := zeroN) hprop hi (decide_eq_true g1))
      replace hst := hst.pick (.cons (.there (.here)) (.cons (.there (.here)) (.cons (.here) (.cons (.there (.here)) (.cons (.there (.here)) .nil)))))
      exact .inr ⟨rfl, _, hst⟩
    refine run_skip ?_
    refine run_inBlock ?_
    refine run_endR hlp hst (.here) fun w hst => ?_
    replace hst := hst.addProp (p := ((enumsL c).drop (i + 1)).find? (fun x => decide (x.n = n)) = (enumsL c).find? (fun x => decide (x.n = n))) (find_miss (d := zeroN) hprop hi (decide_eq_false g1))
    replace hst := hst.pick (.cons (.there (.here)) (.cons (.there (.here)) (.cons (.here) (.cons (.there (.here)) (.cons (.there (.here)) .nil)))))
    exact .inl ⟨rfl, _, hst⟩
  · intro w bl br lp hst
    have hall : ((enumsL c).drop (enumsL c).length).find? (fun x => decide (x.n = n)) = (enumsL c).find? (fun x => decide (x.n = n)) := hst.hL _ (.tail _ (.tail _ (.head _)))
    refine run_inBlock ?_
    refine run_seq ?_
    refine run_region ?_
    refine RunL.cons (Op1.store (v := str _) hst ty9 rfl rfl rfl rfl rfl (.there (.there (.there (.here)))) (by repeat (first | exact Put.nil | apply Put.put | apply Put.skip)) fun w hst => ?_)
    refine RunL.cons (Op1.store (v := .bool _) hst ty4 rfl rfl rfl rfl rfl (.there (.there (.there (.there (.here))))) (by repeat (first | exact Put.nil | apply Put.put | apply Put.skip)) fun w hst => ?_)
    refine RunL.nil ?_
    replace hst := hst.pick (.cons (.there (.here)) (.cons (.here) (.cons (.here) (.cons (.here) (.cons (.here) (.cons (.here) (.cons (.here) .nil)))))))
    refine run_ret_marks [br] Try.func15 hst fun w hst => ⟨_, res2 rfl (RV.cell1 (v := str _) rfl ty9 rfl (hst.cellL (.tail _ (.tail _ (.head _))) rfl)) (RV.cell1 (v := .bool _) rfl ty4 rfl (hst.cellL (.tail _ (.tail _ (.tail _ (.head _)))) rfl)), ?_⟩
    rw [← enums_find, find_end hall (Nat.le_refl _)]
    exact ⟨rfl, hst.pure⟩
  · intro i hi w bl br lp hst
    have hs : (enumsL c).find? (fun x => decide (x.n = n)) = some ((enumsL c).getD i zeroN) := hst.hL _ (.tail _ (.tail _ (.head _)))
    replace hst := hst.pick (.cons (.there (.here)) (.cons (.here) (.cons (.here) (.cons (.here) (.cons (.here) (.cons (.here) (.cons (.here) .nil)))))))
    refine run_ret_marks [br] Try.func15 hst fun w hst => ⟨_, res2 rfl (RV.cell1 (v := str _) rfl ty9 rfl (hst.cellL (.tail _ (.tail _ (.head _))) rfl)) (RV.cell1 (v := .bool _) rfl ty4 rfl (hst.cellL (.tail _ (.tail _ (.tail _ (.head _)))) rfl)), ?_⟩
    rw [← enums_find, hs]
    exact ⟨rfl, hst.pure⟩

theorem R2gr_EnumNamed (c : Int) (q : Byts) (h0 : 0 ≤ c) (h1 : c ≤ 255) (w : World) : Ret Try.prog 17 #[.int .u8 c, str q] w (fun v w' => v = numV (namesL.find? (enS c q)) ∧ St w NoM [] [] w') := by
  refine Ret.enter (args := [.int .u8 c, str q]) Try.func17 rfl rfl rfl ?_
  have hst := St.init w
  refine run_seq ?_
  refine run_region ?_
  refine RunL.cons (Op1.box (v := str _) hst rfl rfl fun w b3 hst => ?_)
  refine RunL.cons (Op1.alloc hst ty24 fun w b4 hst => ?_)
  refine RunL.cons (Op1.alloc hst ty4 fun w b5 hst => ?_)
  refine RunL.nil ?_
  refine run_seq ?_
  refine run_seq ?_
  refine run_region ?_
  refine RunL.cons (Op1.move (v := .int .u8 _) rfl ?_)
  refine RunL.cons (Op1.call1 (v1 := .int .u8 _) ent13 rfl rfl ((R2gr_Enums _ _).mono fun v w hp => ?_))
  obtain ⟨bc, rfl, hp⟩ := hp
  replace hst := hst.call0 hp
  clear hp
  refine RunL.nil ?_
  refine run_block ?_
  replace hst := hst.addProp (p := ((enumsL c).drop 0).find? (fun x => decide (x.name = q)) = (enumsL c).find? (fun x => decide (x.name = q))) (rfl)
  replace hst := hst.pick (.cons (.here) (.cons (.there (.there (.here))) (.cons (.there (.here)) (.cons (.here) (.cons (.here) .nil)))))
  refine run_rangeIter (L1 := [_, _, _]) (L2 := [_, _]) (item := (fun j => [.int .u32 ((enumsL c).getD j zeroN).n, str ((enumsL c).getD j zeroN).name])) (FD := (· = bc)) (fun i => [Res.prop (((enumsL c).drop i).find? (fun x => decide (x.name = q)) = (enumsL c).find? (fun x => decide (x.name = q))), Res.row b4 24 [.int .u32 0], Res.row b5 4 [.bool false]]) (fun i => [Res.prop ((enumsL c).find? (fun x => decide (x.name = q)) = some ((enumsL c).getD i zeroN)), Res.row b4 24 [.int .u32 ((enumsL c).getD i zeroN).n], Res.row b5 4 [.bool true]]) (fun _ => .ret) hst rfl rfl ent30 (fun b hb => .inl (by subst hb; exact ⟨_, (.head _), rfl⟩)) (fun w1 hw1 => R2enums_iter c h0 h1 bc w1 (hw1.hL _ (.tail _ (.tail _ (.tail _ (.head _)))))) (fun _ _ => rfl) ?_ ?_ ?_
  · intro i hi w bl br lp hlp hst hk
    have hprop : ((enumsL c).drop i).find? (fun x => decide (x.name = q)) = (enumsL c).find? (fun x => decide (x.name = q)) := hst.hL _ (.tail _ (.tail _ (.head _)))
    refine run_seq ?_
    refine run_region ?_
    refine RunL.cons (Op1.assign (v := .int .u32 _) rfl ?_)
    refine RunL.nil ?_
    refine run_region ?_
    refine RunL.cons (Op1.assign (v := str _) rfl ?_)
    refine RunL.nil ?_
    refine run_beginR hlp hst (.here) fun w hst => ?_
    refine run_block ?_
    refine run_seq ?_
    refine run_region ?_
    refine RunL.cons (Op1.move (v := str _) rfl ?_)
    refine RunL.cons (Op1.load1 (v := str _) ty9 rfl rfl (hst.cellD (.tail _ (.head _)) rfl) ?_)
    refine RunL.cons (Op1.eqlS rfl rfl ?_)
    refine RunL.nil ?_
    refine run_cond_dec rfl (fun g1 => ?_) (fun g1 => ?_)
    · skip
      refine run_seq ?_
      refine run_region ?_
      refine RunL.cons (Op1.move (v := .int .u32 _) rfl ?_)
      refine RunL.cons (Op1.store (v := .int .u32 _) hst ty24 rfl rfl rfl rfl rfl (.there (.there (.there (.here)))) (by repeat (first | exact Put.nil | apply Put.put | apply Put.skip)) fun w hst => ?_)
      refine RunL.cons (Op1.store (v := .bool _) hst ty4 rfl rfl rfl rfl rfl (.there (.there (.there (.there (.here))))) (by repeat (first | exact Put.nil | apply Put.put | apply Put.skip)) fun w hst => ?_)
      refine RunL.nil ?_
      refine run_retR hst (.here) fun w hst => ?_
      replace hst := hst.addProp (p := (enumsL c).find? (fun x => decide (x.name = q)) = some ((enumsL c).getD i zeroN)) (find_hit (d := zeroN) hprop hi (decide_eq_true g1))
      replace hst := hst.pick (.cons (.there (.here)) (.cons (.there (.here)) (.cons (.here) (.cons (.there (.here)) (.cons (.there (.here)) .nil)))))
      exact .inr ⟨rfl, _, hst⟩
    refine run_skip ?_
    refine run_inBlock ?_
    refine run_endR hlp hst (.here) fun w hst => ?_
    replace hst := hst.addProp (p := ((enumsL c).drop (i + 1)).find? (fun x => decide (x.name = q)) = (enumsL c).find? (fun x => decide (x.name = q))) (find_miss (d := zeroN) hprop hi (decide_eq_false g1))
    replace hst := hst.pick (.cons (.there (.here)) (.cons (.there (.here)) (.cons (.here) (.cons (.there (.here)) (.cons (.there (.here)) .nil)))))
    exact .inl ⟨rfl, _, hst⟩
  · intro w bl br lp hst
    have hall : ((enumsL c).drop (enumsL c).length).find? (fun x => decide (x.name = q)) = (enumsL c).find? (fun x => decide (x.name = q)) := hst.hL _ (.tail _ (.tail _ (.head _)))
    refine run_inBlock ?_
    refine run_seq ?_
    refine run_region ?_
    refine RunL.cons (Op1.store (v := .int .u32 _) hst ty24 rfl rfl rfl rfl rfl (.there (.there (.there (.here)))) (by repeat (first | exact Put.nil | apply Put.put | apply Put.skip)) fun w hst => ?_)
    refine RunL.cons (Op1.store (v := .bool _) hst ty4 rfl rfl rfl rfl rfl (.there (.there (.there (.there (.here))))) (by repeat (first | exact Put.nil | apply Put.put | apply Put.skip)) fun w hst => ?_)
    refine RunL.nil ?_
    replace hst := hst.pick (.cons (.there (.here)) (.cons (.here) (.cons (.here) (.cons (.here) (.cons (.here) (.cons (.here) (.cons (.here) .nil)))))))
    refine run_ret_marks [br] Try.func17 hst fun w hst => ⟨_, res2 rfl (RV.cell1 (v := .int .u32 _) rfl ty24 rfl (hst.cellL (.tail _ (.tail _ (.head _))) rfl)) (RV.cell1 (v := .bool _) rfl ty4 rfl (hst.cellL (.tail _ (.tail _ (.tail _ (.head _)))) rfl)), ?_⟩
    rw [← enums_findS, find_end hall (Nat.le_refl _)]
    exact ⟨rfl, hst.pure⟩
  · intro i hi w bl br lp hst
    have hs : (enumsL c).find? (fun x => decide (x.name = q)) = some ((enumsL c).getD i zeroN) := hst.hL _ (.tail _ (.tail _ (.head _)))
    replace hst := hst.pick (.cons (.there (.here)) (.cons (.here) (.cons (.here) (.cons (.here) (.cons (.here) (.cons (.here) (.cons (.here) .nil)))))))
    refine run_ret_marks [br] Try.func17 hst fun w hst => ⟨_, res2 rfl (RV.cell1 (v := .int .u32 _) rfl ty24 rfl (hst.cellL (.tail _ (.tail _ (.head _))) rfl)) (RV.cell1 (v := .bool _) rfl ty4 rfl (hst.cellL (.tail _ (.tail _ (.tail _ (.head _)))) rfl)), ?_⟩
    rw [← enums_findS, hs]
    exact ⟨rfl, hst.pure⟩

theorem R2law_GrammarEnums (c n : Int) (q : Byts) (h0 : 0 ≤ c) (h1 : c ≤ 255) (w : World) : Ret Try.prog 4 #[.int .u8 c, .int .u32 n, str q] w (fun v w' => v = .bool true ∧ St w NoM [] [] w') := by
  refine Ret.enter (args := [.int .u8 c, .int .u32 n, str q]) Try.func4 rfl rfl rfl ?_
  have hst := St.init w
  refine run_seq ?_
  refine run_region ?_
  refine RunL.cons (Op1.assign (v := .bool _) rfl ?_)
  refine RunL.nil ?_
  refine run_seq ?_
  refine run_region ?_
  refine RunL.cons (Op1.move (v := .int .u8 _) rfl ?_)
  refine RunL.cons (Op1.move (v := .int .u32 _) rfl ?_)
  refine RunL.cons (Op1.call2 (v1 := .int .u8 _) (v2 := .int .u32 _) ent14 rfl rfl rfl ((R2ref_Enum _ _ _).mono fun v w hp => ?_))
  obtain ⟨rfl, hp⟩ := hp
  replace hst := hst.keepc hp
  clear hp
  refine RunL.cons (Op1.move (v := .tuple #[str _, .bool _]) rfl ?_)
  refine RunL.cons (Op1.extract (v := str _) rfl rfl ?_)
  refine RunL.cons (Op1.extract (v := .bool _) rfl rfl ?_)
  refine RunL.cons (Op1.assign (v := str _) rfl ?_)
  refine RunL.cons (Op1.assign (v := .bool _) rfl ?_)
  refine RunL.nil ?_
  refine run_seq ?_
  refine run_region ?_
  refine RunL.cons (Op1.move (v := .int .u8 _) rfl ?_)
  refine RunL.cons (Op1.move (v := .int .u32 _) rfl ?_)
  refine RunL.cons (Op1.call2 (v1 := .int .u8 _) (v2 := .int .u32 _) ent15 rfl rfl rfl ((R2gr_Enum _ _ (by omega) (by omega) _).mono fun v w hp => ?_))
  obtain ⟨rfl, hp⟩ := hp
  replace hst := hst.keepc hp
  clear hp
  refine RunL.cons (Op1.move (v := .tuple #[str _, .bool _]) rfl ?_)
  refine RunL.cons (Op1.extract (v := str _) rfl rfl ?_)
  refine RunL.cons (Op1.extract (v := .bool _) rfl rfl ?_)
  refine RunL.cons (Op1.assign (v := str _) rfl ?_)
  refine RunL.cons (Op1.assign (v := .bool _) rfl ?_)
  refine RunL.nil ?_
  refine run_seq ?_
  refine run_seq ?_
  refine run_region ?_
  refine RunL.cons (Op1.move (v := str _) rfl ?_)
  refine RunL.cons (Op1.move (v := str _) rfl ?_)
  refine RunL.cons (Op1.neqS rfl rfl ?_)
  refine RunL.cons (Op1.move (v := .bool _) rfl ?_)
  refine RunL.splitD (d := 30) rfl (fun g1 => ?_) (fun g1 => ?_)
  · skip
    exfalso
    exact g1 rfl
  refine RunL.take (t := 30) rfl (congrArg Value.bool (decide_eq_false g1)) (Op1.move (v := .bool _) rfl ?_)
  refine RunL.take (t := 30) rfl (congrArg Value.bool (decide_eq_false g1)) (Op1.move (v := .bool _) rfl ?_)
  refine RunL.take (t := 30) rfl (congrArg Value.bool (decide_eq_false g1)) (Op1.neqB ty4 rfl rfl ?_)
  refine RunL.cons (Op1.pickF (u := .bool _) (congrArg Value.bool (decide_eq_false g1)) rfl ?_)
  refine RunL.nil ?_
  refine Run.forget [(0, .int .u8 _), (2, str _), (34, .bool _)] ⟨rfl, rfl, rfl, trivial⟩ (fun f => ?_)
  refine run_cond_split rfl (fun g2 => ?_) (fun g2 => ?_)
  · skip
    exfalso
    simp at g2
  refine run_skip ?_
  refine run_seq ?_
  refine run_region ?_
  refine RunL.cons (Op1.move (v := .int .u8 _) rfl ?_)
  refine RunL.cons (Op1.move (v := str _) rfl ?_)
  refine RunL.cons (Op1.call2 (v1 := .int .u8 _) (v2 := str _) ent16 rfl rfl rfl ((R2ref_EnumNamed _ _ _).mono fun v w hp => ?_))
  obtain ⟨rfl, hp⟩ := hp
  replace hst := hst.keepc hp
  clear hp
  refine RunL.cons (Op1.move (v := .tuple #[.int .u32 _, .bool _]) rfl ?_)
  refine RunL.cons (Op1.extract (v := .int .u32 _) rfl rfl ?_)
  refine RunL.cons (Op1.extract (v := .bool _) rfl rfl ?_)
  refine RunL.cons (Op1.assign (v := .int .u32 _) rfl ?_)
  refine RunL.cons (Op1.assign (v := .bool _) rfl ?_)
  refine RunL.nil ?_
  refine run_seq ?_
  refine run_region ?_
  refine RunL.cons (Op1.move (v := .int .u8 _) rfl ?_)
  refine RunL.cons (Op1.move (v := str _) rfl ?_)
  refine RunL.cons (Op1.call2 (v1 := .int .u8 _) (v2 := str _) ent17 rfl rfl rfl ((R2gr_EnumNamed _ _ (by omega) (by omega) _).mono fun v w hp => ?_))
  obtain ⟨rfl, hp⟩ := hp
  replace hst := hst.keepc hp
  clear hp
  refine RunL.cons (Op1.move (v := .tuple #[.int .u32 _, .bool _]) rfl ?_)
  refine RunL.cons (Op1.extract (v := .int .u32 _) rfl rfl ?_)
  refine RunL.cons (Op1.extract (v := .bool _) rfl rfl ?_)
  refine RunL.cons (Op1.assign (v := .int .u32 _) rfl ?_)
  refine RunL.cons (Op1.assign (v := .bool _) rfl ?_)
  refine RunL.nil ?_
  refine run_seq ?_
  refine run_region ?_
  refine RunL.cons (Op1.move (v := .int .u32 _) rfl ?_)
  refine RunL.cons (Op1.move (v := .int .u32 _) rfl ?_)
  refine RunL.cons (Op1.eql rfl rfl ?_)
  refine RunL.cons (Op1.move (v := .bool _) rfl ?_)
  refine RunL.splitD (d := 50) rfl (fun g3 => ?_) (fun g3 => ?_)
  · skip
    refine RunL.take (t := 50) rfl (congrArg Value.bool (decide_eq_true g3)) (Op1.move (v := .bool _) rfl ?_)
    refine RunL.take (t := 50) rfl (congrArg Value.bool (decide_eq_true g3)) (Op1.move (v := .bool _) rfl ?_)
    refine RunL.take (t := 50) rfl (congrArg Value.bool (decide_eq_true g3)) (Op1.eqlB ty4 rfl rfl ?_)
    refine RunL.cons (Op1.pickT (u := .bool _) (congrArg Value.bool (decide_eq_true g3)) rfl ?_)
    refine RunL.cons (Op1.assign (v := .bool _) rfl ?_)
    refine RunL.nil ?_
    refine run_ret1 Try.func4 rfl (RV.tmp (v := .bool _) rfl) ?_
    exact ⟨by simp, hst.pure⟩
  exfalso
  exact g3 rfl

end Go.SK
