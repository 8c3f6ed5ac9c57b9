/-
  Walks of functions, and of the laws over them.
-/
import Derived.Test.YtheckaonphmmiaaSkGrP
import Derived.Test.YtheckaonphmmiaaSkR2GrD
import Derived.Test.YtheckaonphmmiaaSkR2GrEF
set_option linter.unusedVariables false
set_option linter.unusedSimpArgs false
namespace Go.SK
open Go Go.Proofs
open Go.RowKit
theorem R2law_GrammarEnumsAll (c : Int) (h0 : 0 ≤ c) (h1 : c ≤ 255) (w : World) : Ret Try.prog 3 #[.int .u8 c] w (fun v w' => v = .bool true ∧ St w NoM [] [] w') := by
  refine Ret.enter (args := [.int .u8 c]) Try.func3 rfl rfl rfl ?_
  have hst := St.init w
  have hnl : namesL.length = 30 := by decide +kernel
  have hel := enums_len c
  refine run_seq ?_
  refine run_region ?_
  refine RunL.cons (Op1.assign (v := .bool _) rfl ?_)
  refine RunL.nil ?_
  refine run_seq ?_
  refine run_region ?_
  refine RunL.cons (Op1.call0  ent12 rfl  ((R2ref_Names _).mono fun v w hp => ?_))
  obtain ⟨aoN, cpN, rfl, hp⟩ := hp
  replace hst := hst.call0 hp
  clear hp
  refine RunL.cons (Op1.assign (v := .slice _ _ _) rfl ?_)
  refine RunL.nil ?_
  refine run_seq ?_
  refine run_region ?_
  refine RunL.cons (Op1.alloc hst ty22 fun w b4 hst => ?_)
  refine RunL.nil ?_
  refine run_seq ?_
  refine run_seq ?_
  refine run_region ?_
  refine RunL.cons (Op1.assign (v := .int .i64 _) rfl ?_)
  refine RunL.nil ?_
  refine run_block ?_
  refine run_loop ?_
  replace hst := hst.pushNil 26 3
  refine Run.indW [(0, .int .u8 _), (2, .bool _), (3, .slice _ _ _), (4, .pointer (some ⟨_, _, none⟩))] ⟨rfl, rfl, rfl, rfl, trivial⟩ (fun (q : Nat × Option Addr × Nat) => [(5, .int .i64 (q.1 : Int))]) (fun (q : Nat × Option Addr × Nat) => [Res.sl q.2.1 (ownL c q.1).length q.2.2 26 3 ((ownL c q.1).flatMap nameC), Res.row b4 22 [.slice q.2.1 (ownL c q.1).length q.2.2]]) (fun (q : Nat × Option Addr × Nat) => q.1 ≤ namesL.length) (fun (q : Nat × Option Addr × Nat) => namesL.length - q.1) ((0, none, 0)) hst (Nat.zero_le _) ⟨rfl, trivial⟩ ?_
  intro ⟨i, ao, cp⟩ f w hst hJ ih1
  replace hst : St _ _ ([Res.sl ao (ownL c i).length cp 26 3 ((ownL c i).flatMap nameC), Res.row b4 22 [.slice ao (ownL c i).length cp]] ++ [_]) _ _ := hst
  replace hJ : i ≤ namesL.length := hJ
  refine Run.slots (sl := [(5, .int .i64 (i : Int))]) ⟨rfl, trivial⟩ ?_
  refine run_seq ?_
  refine run_seq ?_
  refine run_region ?_
  refine RunL.cons (Op1.move (v := .int .i64 _) rfl ?_)
  refine RunL.cons (Op1.move (v := .slice _ _ _) rfl ?_)
  refine RunL.cons (Op1.lenSl (rest := []) ty22 rfl ?_)
  refine RunL.cons (Op1.lss rfl rfl ?_)
  refine RunL.nil ?_
  refine run_cond_dec rfl (fun g2 => ?_) (fun g2 => ?_)
  · skip
    have hol := own_len c i
    refine run_skip ?_
    refine run_seq ?_
    refine run_block ?_
    refine run_seq ?_
    refine run_region ?_
    refine RunL.cons (Op1.move (v := .slice _ _ _) rfl ?_)
    refine RunL.cons (Op1.move (v := .int .i64 _) rfl ?_)
    obtain ⟨bs3, rfl⟩ := Res.sl_some (hst.hL _ (.tail _ (.tail _ (.head _)))) (by omega)
    refine RunL.cons (Op1.indexSl ty22 ty26 rfl rfl (by omega) (by omega) ?_)
    refine RunL.cons (Op1.fieldAddr fld26_0 rfl ?_)
    refine RunL.cons (Op1.load1 (v := .int .u8 _) ty5 rfl rfl (Res.sl_cell (hst.hL _ (.tail _ (.tail _ (.head _)))) (flat_cell (g := nameC) (d := zeroN) nameC_len rfl (by omega))) ?_)
    refine RunL.cons (Op1.move (v := .int .u8 _) rfl ?_)
    refine RunL.cons (Op1.eql rfl rfl ?_)
    refine RunL.nil ?_
    refine run_cond_dec rfl (fun g4 => ?_) (fun g4 => ?_)
    · skip
      refine RunD.start [] hst (bs := [0, 0, 0, 6, 14, 30, 63, 127]) (ds := [some 25, some 26, some 27, some 28, some 29, some 30, some 31, none]) ⟨by kernel_rfl, by kernel_rfl, by kernel_rfl⟩ (fun tab5 => ?_)
      refine RunD.op (det _) tab5 1 (fun f' L' w' hc => Op1.load1 (v := .slice _ _ _) ty22 rfl (hc.old (v := .pointer (some ⟨_, _, none⟩)) rfl rfl rfl) (hc.st.cellL (List.mem_append_right _ (.tail _ (.head _))) rfl) ⟨[], ⟨rfl, rfl⟩, hc.st⟩) ?_
      refine RunD.op (det _) tab5 2 (fun f' L' w' hc => Op1.move (v := .slice _ _ _) (hc.old (v := .slice _ _ _) rfl rfl rfl) ⟨[], ⟨rfl, rfl⟩, hc.st⟩) ?_
      refine RunD.op (det _) tab5 3 (fun f' L' w' hc => Op1.move (v := .int .i64 _) (hc.old (v := .int .i64 _) rfl rfl rfl) ⟨[], ⟨rfl, rfl⟩, hc.st⟩) ?_
      refine RunD.op (det _) tab5 4 (fun f' L' w' hc => Op1.indexSl ty22 ty26 (hc.det (j := 1) rfl rfl rfl rfl) (hc.det (j := 2) rfl rfl rfl rfl) (by omega) (by omega) ⟨[], ⟨rfl, rfl⟩, hc.st⟩) ?_
      refine RunD.op (det _) tab5 5 (fun f' L' w' hc => Op1.loadA (vs := [.int .u8 _, .int .u32 _, str _]) ty26 rfl (hc.det (j := 3) rfl rfl rfl rfl) rfl (Res.sl_cells (k := 3) (hc.st.hL _ (List.mem_append_right _ (.tail _ (.tail _ (.head _))))) _ (flat_seg (g := nameC) (d := zeroN) nameC_len _ _ (by omega))) ⟨[], ⟨rfl, rfl⟩, hc.st⟩) ?_
      refine RunD.op (fun v rs => ∃ b, v = .slice (some ⟨b, 0, none⟩) 1 1 ∧ rs = [Res.row b 26 (nameC (namesL.getD i zeroN))]) tab5 6 (fun f' L' w' hc => Op1.buildSl (z0 := [.int .u8 0, .int .u32 0, str []]) hc.st ty22 ty26 rfl rfl (by kernel_rfl) (.cons rfl (v := .agg #[.int .u8 _, .int .u32 _, str _]) (hc.det (j := 4) rfl rfl rfl rfl) rfl rfl rfl (by repeat (first | exact Put.nil | apply Put.put | apply Put.skip)) .nil) fun w b hst => ⟨[_], ⟨b, rfl, rfl⟩, hst⟩) ?_
      refine RunD.fin followsMixed tab5 hst rfl (fun f6 w R9 hs7 hd8 hr10 hst => ?_)
      obtain ⟨h25_, r0⟩ := hd8 0 25 rfl rfl
      obtain ⟨h26_, r1⟩ := hd8 1 26 rfl rfl
      obtain ⟨h27_, r2⟩ := hd8 2 27 rfl rfl
      obtain ⟨h28_, r3⟩ := hd8 3 28 rfl rfl
      obtain ⟨h29_, r4⟩ := hd8 4 29 rfl rfl
      obtain ⟨b30, h30_, r5⟩ := hd8 5 30 rfl rfl
      simp only [show List.range 6 = [0, 1, 2, 3, 4, 5] from rfl, List.flatMap_cons, List.flatMap_nil, List.map_cons, List.map_nil, r0, r1, r2, r3, r4, r5, List.nil_append, List.append_nil, List.cons_append] at hst
      refine RunL.slots (sl := [(0, .int .u8 _), (2, .bool _), (3, .slice _ _ _), (4, .pointer (some ⟨_, _, none⟩)), (5, .int .i64 _), (25, .slice _ _ _), (30, .slice _ _ _)]) ⟨(hs7 0 rfl).trans rfl, (hs7 2 rfl).trans rfl, (hs7 3 rfl).trans rfl, (hs7 4 rfl).trans rfl, (hs7 5 rfl).trans rfl, h25_, h30_, trivial⟩ ?_
      clear hs7 hd8 hr10 tab5
      refine RunL.cons (Op1.append (news := [.int .u8 _, .int .u32 _, str _]) hst ty22 ty26 rfl rfl (.there (.here)) rfl rfl rfl (cells_of_obj (n := 3) (hst.objL (.head _)) _ rfl) rfl rfl (by omega) fun w ao11 cp12 hst => ?_)
      replace hst := hst.drop (.there (.here))
      refine RunL.cons (Op1.store (v := .slice _ _ _) hst ty22 rfl rfl rfl rfl rfl (.there (.here)) (by repeat (first | exact Put.nil | apply Put.put | apply Put.skip)) fun w hst => ?_)
      refine RunL.nil ?_
      refine run_inBlock ?_
      refine run_region ?_
      refine RunL.cons (Op1.move (v := .int .i64 _) rfl ?_)
      refine RunL.cons (Op1.addN rfl rfl rfl (wrap_i64 (by omega) (by omega)) ?_)
      refine RunL.cons (Op1.assign (v := .int .i64 _) rfl ?_)
      refine RunL.nil ?_
      refine run_inLoop ?_
      exact ih1 ((i + 1, ao11, cp12)) _ w (by (try dsimp only); omega) (by (try dsimp only); rw [own_yes (i := i) (by omega) g4, ← Res.sl_snoc]; simp only [List.length_append, List.length_singleton]; exact hst) (by (try dsimp only); omega) ⟨rfl, rfl, rfl, rfl, trivial⟩ ⟨(congrArg (Value.int .i64) (by (try dsimp only); omega)), trivial⟩
    refine run_skip ?_
    refine run_inBlock ?_
    refine run_region ?_
    refine RunL.cons (Op1.move (v := .int .i64 _) rfl ?_)
    refine RunL.cons (Op1.addN rfl rfl rfl (wrap_i64 (by omega) (by omega)) ?_)
    refine RunL.cons (Op1.assign (v := .int .i64 _) rfl ?_)
    refine RunL.nil ?_
    refine run_inLoop ?_
    exact ih1 ((i + 1, ao, cp)) _ w (by (try dsimp only); omega) (by (try dsimp only); rw [own_no (i := i) (by omega) g4]; exact hst) (by (try dsimp only); omega) ⟨rfl, rfl, rfl, rfl, trivial⟩ ⟨(congrArg (Value.int .i64) (by (try dsimp only); omega)), trivial⟩
  obtain rfl : i = namesL.length := by omega
  rw [own_all] at hst
  refine run_exit (id := 0) rfl ?_
  refine run_seq ?_
  refine run_region ?_
  refine RunL.cons (Op1.alloc hst ty3 fun w b6 hst => ?_)
  refine RunL.cons (Op1.store (v := .int .i64 _) hst ty3 rfl rfl rfl rfl rfl (.here) (by repeat (first | exact Put.nil | apply Put.put | apply Put.skip)) fun w hst => ?_)
  refine RunL.nil ?_
  refine run_seq ?_
  refine run_region ?_
  refine RunL.cons (Op1.alloc hst ty4 fun w b7 hst => ?_)
  refine RunL.cons (Op1.store (v := .bool _) hst ty4 rfl rfl rfl rfl rfl (.here) (by repeat (first | exact Put.nil | apply Put.put | apply Put.skip)) fun w hst => ?_)
  refine RunL.nil ?_
  refine run_seq ?_
  refine run_region ?_
  refine RunL.cons (Op1.move (v := .int .u8 _) rfl ?_)
  refine RunL.cons (Op1.call1 (v1 := .int .u8 _) ent13 rfl rfl ((R2gr_Enums _ _).mono fun v w hp => ?_))
  obtain ⟨bc, rfl, hp⟩ := hp
  replace hst := hst.call0 hp
  clear hp
  refine RunL.cons (Op1.assign (v := .func _ _ _) rfl ?_)
  refine RunL.nil ?_
  refine run_seq ?_
  refine run_seq ?_
  refine run_region ?_
  refine RunL.cons (Op1.move (v := .func _ _ _) rfl ?_)
  refine RunL.cons (Op1.eqlFn (fn := _) (a := _) (b := _) ty28 rfl rfl ?_)
  refine RunL.nil ?_
  refine run_cond_false (congrArg Value.bool (rfl : false = _)) ?_
  refine run_skip ?_
  refine run_seq ?_
  refine run_seq ?_
  refine run_region ?_
  refine RunL.cons (Op1.move (v := .func _ _ _) rfl ?_)
  refine RunL.nil ?_
  refine run_block ?_
  replace hst := hst.pick (.cons (.there (.there (.here))) (.cons (.here) (.cons (.here) (.cons (.here) (.cons (.here) (.cons (.here) .nil))))))
  refine run_rangeIter (L1 := [_]) (L2 := [_, _, _, _, _]) (item := (fun j => [.int .u32 ((enumsL c).getD j zeroN).n, str ((enumsL c).getD j zeroN).name])) (FD := (· = bc)) (fun i => [Res.row b6 3 [.int .i64 (i : Int)]]) (fun _ => [Res.prop False]) (fun _ => .exit 2) hst rfl rfl ent30 (fun b hb => .inl (by subst hb; exact ⟨_, (.head _), rfl⟩)) (fun w1 hw1 => R2enums_iter c h0 h1 bc w1 (hw1.hL _ (.tail _ (.head _)))) (fun _ _ => rfl) ?_ ?_ ?_
  · intro j hj w bl br lp hlp hst hk
    refine run_seq ?_
    refine run_region ?_
    refine RunL.cons (Op1.assign (v := .int .u32 _) rfl ?_)
    refine RunL.nil ?_
    refine run_region ?_
    refine RunL.cons (Op1.assign (v := str _) rfl ?_)
    refine RunL.nil ?_
    refine run_beginR hlp hst (.here) fun w hst => ?_
    refine run_block ?_
    refine run_seq ?_
    refine run_seq ?_
    refine run_region ?_
    refine RunL.cons (Op1.load1 (v := .int .i64 _) ty3 rfl rfl (hst.cellL (.tail _ (.tail _ (.head _))) rfl) ?_)
    refine RunL.cons (Op1.load1 (v := .slice _ _ _) ty22 rfl rfl (hst.cellD (.tail _ (.tail _ (.tail _ (.head _)))) rfl) ?_)
    refine RunL.cons (Op1.lenSl (rest := []) ty22 rfl ?_)
    refine RunL.cons (Op1.geq rfl rfl ?_)
    refine RunL.cons (Op1.move (v := .bool _) rfl ?_)
    refine RunL.splitD (d := 43) rfl (fun g13 => ?_) (fun g13 => ?_)
    · skip
      exfalso
      omega
    refine RunL.take (t := 43) rfl (congrArg Value.bool (decide_eq_false g13)) (Op1.load1 (v := .slice _ _ _) ty22 rfl rfl (hst.cellD (.tail _ (.tail _ (.tail _ (.head _)))) rfl) ?_)
    refine RunL.take (t := 43) rfl (congrArg Value.bool (decide_eq_false g13)) (Op1.load1 (v := .int .i64 _) ty3 rfl rfl (hst.cellL (.tail _ (.tail _ (.head _))) rfl) ?_)
    obtain ⟨bs14, rfl⟩ := Res.sl_some (hst.hD _ (.tail _ (.tail _ (.head _)))) (by omega)
    refine RunL.take (t := 43) rfl (congrArg Value.bool (decide_eq_false g13)) (Op1.indexSl ty22 ty26 rfl rfl (by omega) (by omega) ?_)
    refine RunL.take (t := 43) rfl (congrArg Value.bool (decide_eq_false g13)) (Op1.fieldAddr fld26_1 rfl ?_)
    refine RunL.take (t := 43) rfl (congrArg Value.bool (decide_eq_false g13)) (Op1.load1 (v := .int .u32 _) ty24 rfl rfl (Res.sl_cell (hst.hD _ (.tail _ (.tail _ (.head _)))) (flat_cell (g := nameC) (d := zeroN) nameC_len rfl (by omega))) ?_)
    refine RunL.take (t := 43) rfl (congrArg Value.bool (decide_eq_false g13)) (Op1.move (v := .int .u32 _) rfl ?_)
    refine RunL.take (t := 43) rfl (congrArg Value.bool (decide_eq_false g13)) (Op1.neq rfl rfl ?_)
    refine RunL.cons (Op1.pickF (u := .bool _) (congrArg Value.bool (decide_eq_false g13)) rfl ?_)
    refine RunL.cons (Op1.move (v := .bool _) rfl ?_)
    refine RunL.splitD (d := 52) rfl (fun g15 => ?_) (fun g15 => ?_)
    · skip
      exfalso
      exact g15 rfl
    refine RunL.take (t := 52) rfl (congrArg Value.bool (decide_eq_false g15)) (Op1.load1 (v := .slice _ _ _) ty22 rfl rfl (hst.cellD (.tail _ (.tail _ (.tail _ (.head _)))) rfl) ?_)
    refine RunL.take (t := 52) rfl (congrArg Value.bool (decide_eq_false g15)) (Op1.load1 (v := .int .i64 _) ty3 rfl rfl (hst.cellL (.tail _ (.tail _ (.head _))) rfl) ?_)
    refine RunL.take (t := 52) rfl (congrArg Value.bool (decide_eq_false g15)) (Op1.indexSl ty22 ty26 rfl rfl (by omega) (by omega) ?_)
    refine RunL.take (t := 52) rfl (congrArg Value.bool (decide_eq_false g15)) (Op1.fieldAddr fld26_2 rfl ?_)
    refine RunL.take (t := 52) rfl (congrArg Value.bool (decide_eq_false g15)) (Op1.load1 (v := str _) ty9 rfl rfl (Res.sl_cell (hst.hD _ (.tail _ (.tail _ (.head _)))) (flat_cell (g := nameC) (d := zeroN) nameC_len rfl (by omega))) ?_)
    refine RunL.take (t := 52) rfl (congrArg Value.bool (decide_eq_false g15)) (Op1.move (v := str _) rfl ?_)
    refine RunL.take (t := 52) rfl (congrArg Value.bool (decide_eq_false g15)) (Op1.neqS rfl rfl ?_)
    refine RunL.cons (Op1.pickF (u := .bool _) (congrArg Value.bool (decide_eq_false g15)) rfl ?_)
    refine RunL.nil ?_
    refine Run.forget [(2, .bool _), (6, .pointer (some ⟨_, _, none⟩)), (7, .pointer (some ⟨_, _, none⟩)), (60, .bool _)] ⟨rfl, rfl, rfl, rfl, trivial⟩ (fun f => ?_)
    refine run_cond_dec rfl (fun g16 => ?_) (fun g16 => ?_)
    · skip
      exfalso
      exact g16 rfl
    refine run_skip ?_
    refine run_region ?_
    refine RunL.cons (Op1.load1 (v := .int .i64 _) ty3 rfl rfl (hst.cellL (.tail _ (.tail _ (.head _))) rfl) ?_)
    refine RunL.cons (Op1.addN rfl rfl rfl (wrap_i64 (by omega) (by omega)) ?_)
    refine RunL.cons (Op1.store (v := .int .i64 _) hst ty3 rfl rfl rfl rfl rfl (.there (.there (.here))) (by repeat (first | exact Put.nil | apply Put.put | apply Put.skip)) fun w hst => ?_)
    refine RunL.nil ?_
    refine run_inBlock ?_
    refine run_endR hlp hst (.here) fun w hst => ?_
    replace hst := hst.pick (.cons (.here) (.cons (.here) (.cons (.here) .nil)))
    exact .inl ⟨rfl, _, hst⟩
  · intro w bl br lp hst
    refine run_inBlock ?_
    refine run_seq ?_
    refine run_region ?_
    refine RunL.cons (Op1.load1 (v := .bool _) ty4 rfl rfl (hst.cellL (.tail _ (.tail _ (.tail _ (.tail _ (.head _))))) rfl) ?_)
    refine RunL.cons (Op1.move (v := .bool _) rfl ?_)
    refine RunL.split (d := 64) rfl (fun g17 => ?_) (fun g17 => ?_)
    · skip
      refine RunL.take (t := 64) rfl (congrArg Value.bool g17) (Op1.load1 (v := .int .i64 _) ty3 rfl rfl (hst.cellL (.tail _ (.tail _ (.head _))) rfl) ?_)
      refine RunL.take (t := 64) rfl (congrArg Value.bool g17) (Op1.load1 (v := .slice _ _ _) ty22 rfl rfl (hst.cellL (.tail _ (.tail _ (.tail _ (.tail _ (.tail _ (.tail _ (.head _))))))) rfl) ?_)
      refine RunL.take (t := 64) rfl (congrArg Value.bool g17) (Op1.lenSl (rest := []) ty22 rfl ?_)
      refine RunL.take (t := 64) rfl (congrArg Value.bool g17) (Op1.eql rfl rfl ?_)
      refine RunL.cons (Op1.pickT (u := .bool _) (congrArg Value.bool g17) rfl ?_)
      refine RunL.cons (Op1.assign (v := .bool _) rfl ?_)
      refine RunL.nil ?_
      replace hst := hst.pick (.cons (.there (.here)) (.cons (.here) (.cons (.here) (.cons (.here) (.cons (.here) (.cons (.here) (.cons (.here) (.cons (.here) .nil))))))))
      refine run_ret_marks [br] Try.func3 hst fun w hst => ⟨_, res1 rfl (RV.tmp (v := .bool _) rfl), ?_⟩
      exact ⟨congrArg Value.bool (decide_eq_true rfl), hst.pure⟩
    exfalso
    cases g17
  · intro j hj w bl br lp hst
    exact (hst.hL _ (.tail _ (.tail _ (.head _))) : False).elim

theorem R2gr_All  (w : World) : Ret Try.prog 21 #[] w (fun v w' => v = .func (.func 36) #[] #[] ∧ St w NoM [] [] w') := by
  refine Ret.enter (args := []) Try.func21 rfl rfl rfl ?_
  have hst := St.init w
  refine run_seq ?_
  refine run_region ?_
  refine RunL.cons (Op1.assign (v := _) rfl ?_)
  refine RunL.nil ?_
  refine run_seq ?_
  refine run_region ?_
  refine RunL.cons (Op1.assign (v := .func _ _ _) rfl ?_)
  refine RunL.nil ?_
  refine run_ret1 Try.func21 rfl (RV.tmp (v := .func _ _ _) rfl) ?_
  exact ⟨rfl, hst.pure⟩

theorem R2all_iter (w : World) : IterOk Try.prog 36 [] refT.length (fun j => [.agg (formC (refT.getD j zeroF)).toArray]) (fun _ => False) w := by
  intro yv R S hR hFD hy
  have hyx : ∀ n : Nat, n < 256 → (refS (n : Int)).isSome = true → ∀ w1, St w (R 0).foot [R (allL n).length] [] w1 → CallV Try.prog yv [.agg (formC ((refS (n : Int)).getD zeroF)).toArray] w1 fun v w2 => (v = .bool true ∧ St w1 (R (allL n).length).foot [R ((allL n).length + 1)] [] w2) ∨ (v = .bool false ∧ St w1 (R (allL n).length).foot [S (allL n).length] [] w2) := fun n hn hs w1 hw1 => by
    have hk := (all_step hn).2 hs
    have t := hy _ hk.2 w1 hw1
    dsimp only at t
    rwa [hk.1] at t
  refine Ret.enter (args := [yv]) Try.func36 rfl rfl rfl ?_
  have hst : St w (R 0).foot [R 0] [] w := St.enter1 hR (fun d hd => by cases hd) (fun d hd => by cases hd)
  refine run_seq ?_
  refine run_region ?_
  refine RunL.cons (Op1.move (v := .int .u16 _) rfl ?_)
  refine RunL.nil ?_
  refine run_block ?_
  refine run_loop ?_
  refine Run.indW [(0, _)] ⟨rfl, trivial⟩ (fun (n : Nat) => [(5, .int .u16 (n : Int))]) (fun (n : Nat) => [R (allL n).length]) (fun (n : Nat) => n ≤ 256) (fun (n : Nat) => 256 - n) (0) (by (try dsimp only); rw [all_0]; exact hst) (Nat.zero_le _) ⟨rfl, trivial⟩ ?_
  intro n f w hst hJ ih1
  refine run_seq ?_
  refine run_region ?_
  refine RunL.cons (Op1.lss rfl rfl ?_)
  refine RunL.nil ?_
  refine run_seq ?_
  refine run_cond_dec rfl (fun g2 => ?_) (fun g2 => ?_)
  · skip
    refine run_skip ?_
    refine run_seq ?_
    refine run_block ?_
    refine run_seq ?_
    refine run_region ?_
    refine RunL.cons (Op1.move (v := .int .u16 _) rfl ?_)
    refine RunL.cons (Op1.assign (v := .int .u16 _) rfl ?_)
    refine RunL.nil ?_
    refine run_seq ?_
    refine run_region ?_
    refine RunL.cons (Op1.move (v := .int .u16 _) rfl ?_)
    refine RunL.cons (Op1.call1 (v1 := .int .u16 _) ent19 rfl rfl ((R2gr_Of _ (by omega) _).mono fun v w hp => ?_))
    obtain ⟨rfl, hp⟩ := hp
    replace hst := hst.keepc hp
    clear hp
    refine RunL.cons (Op1.move (v := .tuple #[.agg #[.int .u16 _, str _, .bool _, .bool _, str _, str _, .int .i64 _, .int .u8 _], .bool _]) rfl ?_)
    refine RunL.cons (Op1.extract (v := .agg #[.int .u16 _, str _, .bool _, .bool _, str _, str _, .int .i64 _, .int .u8 _]) rfl rfl ?_)
    refine RunL.cons (Op1.extract (v := .bool _) rfl rfl ?_)
    refine RunL.cons (Op1.alloc hst ty38 fun w b3 hst => ?_)
    refine RunL.cons (Op1.store (v := .agg #[.int .u16 _, str _, .bool _, .bool _, str _, str _, .int .i64 _, .int .u8 _]) hst ty38 rfl rfl rfl rfl rfl (.here) (by repeat (first | exact Put.nil | apply Put.put | apply Put.skip)) fun w hst => ?_)
    refine RunL.cons (Op1.assign (v := .bool _) rfl ?_)
    refine RunL.nil ?_
    refine run_seq ?_
    refine run_region ?_
    refine RunL.cons (Op1.move (v := .bool _) rfl ?_)
    refine RunL.cons (Op1.move (v := .bool _) rfl ?_)
    refine RunL.split (d := 14) rfl (fun g3 => ?_) (fun g3 => ?_)
    · skip
      refine RunL.take (t := 14) rfl (congrArg Value.bool g3) (Op1.move (v := _) rfl ?_)
      refine RunL.take (t := 14) rfl (congrArg Value.bool g3) (Op1.loadA (vs := [.int .u16 _, str _, .bool _, .bool _, str _, str _, .int .i64 _, .int .u8 _]) ty38 rfl rfl rfl (cells_of_obj (n := 8) (hst.objL (.head _)) _ rfl) ?_)
      replace hst := hst.pick (.cons (.there (.here)) (.cons (.here) .nil))
      refine RunL.take (t := 14) rfl (congrArg Value.bool g3) (Op1.callV1 (v1 := .agg #[.int .u16 _, str _, .bool _, .bool _, str _, str _, .int .i64 _, .int .u8 _]) rfl rfl ((hyx n (by omega) g3 _ hst.one).mono fun v w hp => ?_))
      rcases hp with ⟨rfl, hp⟩ | ⟨rfl, hp⟩
      · skip
        replace hst := hst.call1 hp
        clear hp
        refine RunL.take (t := 14) rfl (congrArg Value.bool g3) (Op1.not rfl ?_)
        refine RunL.cons (Op1.pickT (u := .bool _) (congrArg Value.bool g3) rfl ?_)
        refine RunL.nil ?_
        refine run_cond_false (congrArg Value.bool (congrArg not (rfl : true = _))) ?_
        refine run_skip ?_
        refine run_inBlock ?_
        refine run_region ?_
        refine RunL.cons (Op1.addN rfl rfl rfl (wrap_u16 (by omega) (by omega)) ?_)
        refine RunL.cons (Op1.move (v := .int .u16 _) rfl ?_)
        refine RunL.nil ?_
        refine run_inLoop ?_
        replace hst := hst.pick (.cons (.here) .nil)
        exact ih1 (n + 1) _ w (by omega) (by (try dsimp only); rw [all_some (by omega) g3]; simp only [List.length_append, List.length_singleton]; exact hst) (by omega) ⟨rfl, trivial⟩ ⟨(congrArg (Value.int .u16) (by omega)), trivial⟩
      · skip
        replace hst := hst.call1 hp
        clear hp
        refine RunL.take (t := 14) rfl (congrArg Value.bool g3) (Op1.not rfl ?_)
        refine RunL.cons (Op1.pickT (u := .bool _) (congrArg Value.bool g3) rfl ?_)
        refine RunL.nil ?_
        refine run_cond_true (congrArg Value.bool (congrArg not (rfl : false = _))) ?_
        refine run_ret0 Try.func36 rfl  ?_
        replace hst := hst.pick (.cons (.here) (.cons (.here) .nil))
        exact .inr ⟨(allL n).length, ((all_step (by omega)).2 g3).2, hst.one⟩
    refine RunL.omit (t := 14) rfl (congrArg Value.bool g3) rfl ?_
    refine RunL.omit (t := 14) rfl (congrArg Value.bool g3) rfl ?_
    refine RunL.omit (t := 14) rfl (congrArg Value.bool g3) rfl ?_
    refine RunL.omit (t := 14) rfl (congrArg Value.bool g3) rfl ?_
    refine RunL.cons (Op1.pickF (u := .bool _) (congrArg Value.bool g3) rfl ?_)
    refine RunL.nil ?_
    refine run_cond_false (congrArg Value.bool (rfl : false = _)) ?_
    refine run_skip ?_
    refine run_inBlock ?_
    refine run_region ?_
    refine RunL.cons (Op1.addN rfl rfl rfl (wrap_u16 (by omega) (by omega)) ?_)
    refine RunL.cons (Op1.move (v := .int .u16 _) rfl ?_)
    refine RunL.nil ?_
    refine run_inLoop ?_
    replace hst := hst.pick (.cons (.there (.here)) .nil)
    exact ih1 (n + 1) _ w (by omega) (by (try dsimp only); rw [all_none (by omega) g3]; exact hst) (by omega) ⟨rfl, trivial⟩ ⟨(congrArg (Value.int .u16) (by omega)), trivial⟩
  refine run_exit (id := 0) rfl ?_
  refine run_end0 Try.func36 rfl  ?_
  replace hst := hst.pick (.cons (.here) .nil)
  obtain rfl : n = 256 := by omega
  rw [all_256] at hst
  exact .inl hst.one

theorem R2ref_All  (w : World) : Ret Try.prog 20 #[] w (fun v w' => ∃ ao cp, v = .slice ao refT.length cp ∧ St w NoM [Res.sl ao refT.length cp 38 8 (refT.flatMap formC)] [] w') := by
  refine Ret.enter (args := []) Try.func20 rfl rfl rfl ?_
  have hst := St.init w
  refine run_seq ?_
  refine run_region ?_
  refine RunL.cons (Op1.assign (v := .slice _ _ _) rfl ?_)
  refine RunL.nil ?_
  refine run_seq ?_
  refine run_region ?_
  refine RunL.cons (Op1.assign (v := .slice _ _ _) rfl ?_)
  refine RunL.nil ?_
  refine run_seq ?_
  refine run_seq ?_
  refine run_region ?_
  refine RunL.cons (Op1.assign (v := .int .i64 _) rfl ?_)
  refine RunL.nil ?_
  refine run_block ?_
  refine run_loop ?_
  replace hst := hst.pushNil 38 8
  refine Run.indW [] trivial (fun (q : Nat × Option Addr × Nat) => [(1, .slice q.2.1 (allL q.1).length q.2.2), (2, .int .i64 (q.1 : Int))]) (fun (q : Nat × Option Addr × Nat) => [Res.sl q.2.1 (allL q.1).length q.2.2 38 8 ((allL q.1).flatMap formC)]) (fun (q : Nat × Option Addr × Nat) => q.1 ≤ 256) (fun (q : Nat × Option Addr × Nat) => 256 - q.1) ((0, none, 0)) (by (try dsimp only); rw [all_0]; exact hst) (Nat.zero_le _) ⟨(by (try dsimp only); rw [all_0]; rfl), rfl, trivial⟩ ?_
  intro ⟨n, ao, cp⟩ f w hst hJ ih1
  replace hst : St _ _ ([Res.sl ao (allL n).length cp 38 8 ((allL n).flatMap formC)] ++ []) _ _ := hst
  replace hJ : n ≤ 256 := hJ
  refine Run.slots (sl := [(1, .slice ao (allL n).length cp), (2, .int .i64 (n : Int))]) ⟨rfl, rfl, trivial⟩ ?_
  refine run_seq ?_
  refine run_seq ?_
  refine run_region ?_
  refine RunL.cons (Op1.move (v := .int .i64 _) rfl ?_)
  refine RunL.cons (Op1.lss rfl rfl ?_)
  refine RunL.nil ?_
  refine run_cond_dec rfl (fun g2 => ?_) (fun g2 => ?_)
  · skip
    have hal := all_len n
    refine run_skip ?_
    refine run_seq ?_
    refine run_block ?_
    refine run_seq ?_
    refine run_region ?_
    refine RunL.cons (Op1.move (v := .int .i64 _) rfl ?_)
    first | refine RunL.cons (Op1.convN ty3 ty36 rfl (wrap_u16 (by omega) (by omega)) ?_) | refine RunL.cons (Op1.conv ty3 ty36 rfl ?_)
    refine RunL.cons (Op1.call1 (v1 := .int .u16 _) ent18 rfl rfl ((R2ref_Of _ _).mono fun v w hp => ?_))
    obtain ⟨rfl, hp⟩ := hp
    replace hst := hst.keepc hp
    clear hp
    refine RunL.cons (Op1.move (v := .tuple #[.agg #[.int .u16 _, str _, .bool _, .bool _, str _, str _, .int .i64 _, .int .u8 _], .bool _]) rfl ?_)
    refine RunL.cons (Op1.extract (v := .agg #[.int .u16 _, str _, .bool _, .bool _, str _, str _, .int .i64 _, .int .u8 _]) rfl rfl ?_)
    refine RunL.cons (Op1.extract (v := .bool _) rfl rfl ?_)
    refine RunL.cons (Op1.alloc hst ty38 fun w b3 hst => ?_)
    refine RunL.cons (Op1.store (v := .agg #[.int .u16 _, str _, .bool _, .bool _, str _, str _, .int .i64 _, .int .u8 _]) hst ty38 rfl rfl rfl rfl rfl (.here) (by repeat (first | exact Put.nil | apply Put.put | apply Put.skip)) fun w hst => ?_)
    refine RunL.cons (Op1.assign (v := .bool _) rfl ?_)
    refine RunL.nil ?_
    refine run_seq ?_
    refine run_region ?_
    refine RunL.cons (Op1.move (v := .bool _) rfl ?_)
    refine RunL.nil ?_
    refine run_cond_split rfl (fun g3 => ?_) (fun g3 => ?_)
    · skip
      refine run_region ?_
      refine RunL.cons (Op1.move (v := .slice _ _ _) rfl ?_)
      refine RunL.cons (Op1.loadA (vs := [.int .u16 _, str _, .bool _, .bool _, str _, str _, .int .i64 _, .int .u8 _]) ty38 rfl rfl rfl (cells_of_obj (n := 8) (hst.objL (.head _)) _ rfl) ?_)
      refine RunL.cons (Op1.buildSl (z0 := [.int .u16 0, str [], .bool false, .bool false, str [], str [], .int .i64 0, .int .u8 0]) hst ty42 ty38 rfl rfl (by kernel_rfl) (.cons rfl (v := .agg #[.int .u16 _, str _, .bool _, .bool _, str _, str _, .int .i64 _, .int .u8 _]) rfl rfl rfl rfl (by repeat (first | exact Put.nil | apply Put.put | apply Put.skip)) .nil) fun w b18 hst => ?_)
      refine RunL.cons (Op1.append (news := [.int .u16 _, str _, .bool _, .bool _, str _, str _, .int .i64 _, .int .u8 _]) hst ty42 ty38 rfl rfl (.there (.there (.here))) rfl rfl rfl (cells_of_obj (n := 8) (hst.objL (.head _)) _ rfl) rfl rfl (by omega) fun w ao4 cp5 hst => ?_)
      replace hst := hst.drop (.there (.here))
      refine RunL.cons (Op1.assign (v := .slice _ _ _) rfl ?_)
      refine RunL.nil ?_
      refine run_inBlock ?_
      refine run_region ?_
      refine RunL.cons (Op1.move (v := .int .i64 _) rfl ?_)
      refine RunL.cons (Op1.addN rfl rfl rfl (wrap_i64 (by omega) (by omega)) ?_)
      refine RunL.cons (Op1.assign (v := .int .i64 _) rfl ?_)
      refine RunL.nil ?_
      refine run_inLoop ?_
      replace hst := hst.pick (.cons (.here) .nil)
      exact ih1 ((n + 1, ao4, cp5)) _ w (by (try dsimp only); omega) (by (try dsimp only); rw [all_some (by omega) g3, ← Res.sl_snoc]; exact hst) (by (try dsimp only); omega) trivial ⟨(by (try dsimp only); rw [all_some (by omega) g3]; simp only [List.length_append, List.length_singleton]; rfl), (congrArg (Value.int .i64) (by (try dsimp only); omega)), trivial⟩
    refine run_skip ?_
    refine run_inBlock ?_
    refine run_region ?_
    refine RunL.cons (Op1.move (v := .int .i64 _) rfl ?_)
    refine RunL.cons (Op1.addN rfl rfl rfl (wrap_i64 (by omega) (by omega)) ?_)
    refine RunL.cons (Op1.assign (v := .int .i64 _) rfl ?_)
    refine RunL.nil ?_
    refine run_inLoop ?_
    replace hst := hst.pick (.cons (.there (.here)) .nil)
    exact ih1 ((n + 1, ao, cp)) _ w (by (try dsimp only); omega) (by (try dsimp only); rw [all_none (by omega) g3]; exact hst) (by (try dsimp only); omega) trivial ⟨(by (try dsimp only); rw [all_none (by omega) g3]; rfl), (congrArg (Value.int .i64) (by (try dsimp only); omega)), trivial⟩
  obtain rfl : n = 256 := by omega
  rw [all_256] at hst
  refine run_exit (id := 0) rfl ?_
  refine run_seq ?_
  refine run_region ?_
  refine RunL.cons (Op1.move (v := .slice _ _ _) rfl ?_)
  refine RunL.cons (Op1.assign (v := .slice _ _ _) rfl ?_)
  refine RunL.nil ?_
  refine run_ret1 Try.func20 rfl (RV.tmp (v := .slice _ _ _) rfl) ?_
  exact ⟨_, _, (by rw [all_256]), hst⟩

end Go.SK
