/-
  Walks of functions, and of the laws over them.
-/
import Derived.Test.YtheckaonphmmiaaSkGrP
import Derived.Test.YtheckaonphmmiaaSkR2GrE
import Derived.Test.YtheckaonphmmiaaSkR2GrFF
set_option linter.unusedVariables false
set_option linter.unusedSimpArgs false
namespace Go.SK
open Go Go.Proofs
open Go.RowKit
theorem R2law_GrammarAll (stop : Int) (w : World) : Ret Try.prog 6 #[.int .i64 stop] w (fun v w' => v = .bool true ∧ St w NoM [] [] w') := by
  refine Ret.enter (args := [.int .i64 stop]) Try.func6 rfl rfl rfl ?_
  have hst := St.init w
  have hrl := refT_len
  refine run_seq ?_
  refine run_region ?_
  refine RunL.cons (Op1.box (v := .int .i64 _) hst rfl rfl fun w b1 hst => ?_)
  refine RunL.cons (Op1.assign (v := .bool _) rfl ?_)
  refine RunL.nil ?_
  refine run_seq ?_
  refine run_region ?_
  refine RunL.cons (Op1.call0  ent20 rfl  ((R2ref_All _).mono fun v w hp => ?_))
  obtain ⟨aoF, cpF, rfl, hp⟩ := hp
  replace hst := hst.call0 hp
  clear hp
  refine RunL.cons (Op1.alloc hst ty42 fun w b3 hst => ?_)
  refine RunL.cons (Op1.store (v := .slice _ _ _) hst ty42 rfl rfl rfl rfl rfl (.here) (by repeat (first | exact Put.nil | apply Put.put | apply Put.skip)) fun w hst => ?_)
  refine RunL.nil ?_
  refine run_seq ?_
  refine run_region ?_
  refine RunL.cons (Op1.alloc hst ty3 fun w b4 hst => ?_)
  refine RunL.cons (Op1.store (v := .int .i64 _) hst ty3 rfl rfl rfl rfl rfl (.here) (by repeat (first | exact Put.nil | apply Put.put | apply Put.skip)) fun w hst => ?_)
  refine RunL.nil ?_
  refine run_seq ?_
  refine run_region ?_
  refine RunL.cons (Op1.alloc hst ty4 fun w b5 hst => ?_)
  refine RunL.cons (Op1.store (v := .bool _) hst ty4 rfl rfl rfl rfl rfl (.here) (by repeat (first | exact Put.nil | apply Put.put | apply Put.skip)) fun w hst => ?_)
  refine RunL.nil ?_
  refine run_seq ?_
  refine run_region ?_
  refine RunL.cons (Op1.call0  ent21 rfl  ((R2gr_All _).mono fun v w hp => ?_))
  obtain ⟨rfl, hp⟩ := hp
  replace hst := hst.keepc hp
  clear hp
  refine RunL.cons (Op1.assign (v := .func _ _ _) rfl ?_)
  refine RunL.nil ?_
  refine run_seq ?_
  refine run_seq ?_
  refine run_region ?_
  refine RunL.cons (Op1.move (v := .func _ _ _) rfl ?_)
  refine RunL.cons (Op1.eqlFn (fn := _) (a := _) (b := _) ty45 rfl rfl ?_)
  refine RunL.nil ?_
  refine run_cond_false (congrArg Value.bool (rfl : false = _)) ?_
  refine run_skip ?_
  refine run_seq ?_
  refine run_seq ?_
  refine run_region ?_
  refine RunL.cons (Op1.move (v := .func _ _ _) rfl ?_)
  refine RunL.nil ?_
  refine run_block ?_
  replace hst := hst.addProp (p := (stop ≤ 0 ∨ ((0 : Nat) : Int) < stop)) (by omega)
  replace hst := hst.pick (.cons (.here) (.cons (.there (.here)) (.cons (.here) (.cons (.here) (.cons (.here) (.cons (.here) .nil))))))
  refine run_rangeIter (L1 := [_, _]) (L2 := [_, _, _, _]) (item := (fun j => [.agg (formC (refT.getD j zeroF)).toArray])) (FD := (fun _ => False)) (fun i => [Res.prop (stop ≤ 0 ∨ (i : Int) < stop), Res.row b4 3 [.int .i64 (i : Int)]]) (fun i => [Res.prop ((i : Int) + 1 = stop), Res.row b4 3 [.int .i64 ((i : Int) + 1)]]) (fun _ => .exit 0) hst rfl rfl ent36 (fun b hb => hb.elim) (fun w1 _ => R2all_iter w1) (fun _ _ => rfl) ?_ ?_ ?_
  · intro i hi w bl br lp hlp hst hk
    have hprop : (stop ≤ 0 ∨ (i : Int) < stop) := hst.hL _ (.tail _ (.tail _ (.head _)))
    refine run_region ?_
    refine RunL.cons (Op1.alloc hst ty38 fun w b7 hst => ?_)
    refine RunL.cons (Op1.store (v := .agg #[.int .u16 _, str _, .bool _, .bool _, str _, str _, .int .i64 _, .int .u8 _]) hst ty38 rfl rfl rfl rfl rfl (.here) (by repeat (first | exact Put.nil | apply Put.put | apply Put.skip)) fun w hst => ?_)
    refine RunL.nil ?_
    refine run_beginR hlp hst (.there (.here)) fun w hst => ?_
    refine run_block ?_
    refine run_seq ?_
    refine run_seq ?_
    obtain ⟨bs1, rfl⟩ := Res.sl_some (hst.hD _ (.tail _ (.tail _ (.head _)))) (by omega)
    refine RunD.start [] hst (bs := [0, 0, 2, 7, 15, 31, 31, 31, 223, 479, 1023, 2047]) (ds := [some 15, some 16, some 17, some 18, some 19, some 20, some 21, some 22, some 23, some 24, some 25, some 26]) ⟨by kernel_rfl, by kernel_rfl, by kernel_rfl⟩ (fun tab2 => ?_)
    refine RunD.op (det _) tab2 1 (fun f' L' w' hc => Op1.load1 (v := .int .i64 _) ty3 rfl (hc.old (v := .pointer (some ⟨_, _, none⟩)) rfl rfl rfl) (hc.st.cellL (List.mem_append_right _ (.tail _ (.tail _ (.tail _ (.tail _ (.head _)))))) rfl) ⟨[], ⟨rfl, rfl⟩, hc.st⟩) ?_
    refine RunD.op (det _) tab2 2 (fun f' L' w' hc => Op1.load1 (v := .slice _ _ _) ty42 rfl (hc.old (v := .pointer (some ⟨_, _, none⟩)) rfl rfl rfl) (hc.st.cellD (.tail _ (.head _)) rfl) ⟨[], ⟨rfl, rfl⟩, hc.st⟩) ?_
    refine RunD.op (det _) tab2 3 (fun f' L' w' hc => Op1.lenSl (rest := []) ty42 (hc.det (j := 1) rfl rfl rfl rfl) ⟨[], ⟨rfl, rfl⟩, hc.st⟩) ?_
    refine RunD.op (det _) tab2 4 (fun f' L' w' hc => Op1.geq (hc.det (j := 0) rfl rfl rfl rfl) (hc.det (j := 2) rfl rfl rfl rfl) ⟨[], ⟨rfl, rfl⟩, hc.st⟩) ?_
    refine RunD.op (det _) tab2 5 (fun f' L' w' hc => Op1.move (v := .bool _) (hc.det (j := 3) rfl rfl rfl rfl) ⟨[], ⟨rfl, rfl⟩, hc.st⟩) ?_
    refine RunD.splitD (j := 4) rfl (fun g3 => ?_) (fun g3 => ?_)
    · skip
      exfalso
      omega
    refine RunD.take (det _) tab2 6 rfl (fun f' L' w' hc => (hc.det (j := 4) rfl rfl rfl rfl).trans (congrArg Value.bool (decide_eq_false g3))) (fun f' L' w' hc => Op1.loadA (vs := [.int .u16 _, str _, .bool _, .bool _, str _, str _, .int .i64 _, .int .u8 _]) ty38 rfl (hc.old (v := .pointer (some ⟨_, _, none⟩)) rfl rfl rfl) rfl (cells_of_obj (n := 8) (hc.st.objL (List.mem_append_right _ (.head _))) _ rfl) ⟨[], ⟨rfl, rfl⟩, hc.st⟩) ?_
    refine RunD.take (det _) tab2 7 rfl (fun f' L' w' hc => (hc.det (j := 4) rfl rfl rfl rfl).trans (congrArg Value.bool (decide_eq_false g3))) (fun f' L' w' hc => Op1.load1 (v := .slice _ _ _) ty42 rfl (hc.old (v := .pointer (some ⟨_, _, none⟩)) rfl rfl rfl) (hc.st.cellD (.tail _ (.head _)) rfl) ⟨[], ⟨rfl, rfl⟩, hc.st⟩) ?_
    refine RunD.take (det _) tab2 8 rfl (fun f' L' w' hc => (hc.det (j := 4) rfl rfl rfl rfl).trans (congrArg Value.bool (decide_eq_false g3))) (fun f' L' w' hc => Op1.load1 (v := .int .i64 _) ty3 rfl (hc.old (v := .pointer (some ⟨_, _, none⟩)) rfl rfl rfl) (hc.st.cellL (List.mem_append_right _ (.tail _ (.tail _ (.tail _ (.tail _ (.head _)))))) rfl) ⟨[], ⟨rfl, rfl⟩, hc.st⟩) ?_
    refine RunD.take (det _) tab2 9 rfl (fun f' L' w' hc => (hc.det (j := 4) rfl rfl rfl rfl).trans (congrArg Value.bool (decide_eq_false g3))) (fun f' L' w' hc => Op1.indexSl ty42 ty38 (hc.det (j := 6) rfl rfl rfl rfl) (hc.det (j := 7) rfl rfl rfl rfl) (by omega) (by omega) ⟨[], ⟨rfl, rfl⟩, hc.st⟩) ?_
    refine RunD.take (det _) tab2 10 rfl (fun f' L' w' hc => (hc.det (j := 4) rfl rfl rfl rfl).trans (congrArg Value.bool (decide_eq_false g3))) (fun f' L' w' hc => Op1.loadA (vs := [.int .u16 _, str _, .bool _, .bool _, str _, str _, .int .i64 _, .int .u8 _]) ty38 rfl (hc.det (j := 8) rfl rfl rfl rfl) rfl (Res.sl_cells (k := 8) (hc.st.hD _ (.tail _ (.tail _ (.head _)))) _ (flat_seg (g := formC) (d := zeroF) formC_len _ _ (by omega))) ⟨[], ⟨rfl, rfl⟩, hc.st⟩) ?_
    refine RunD.fin followsMixed tab2 hst rfl (fun f4 w R7 hs5 hd6 hr8 hst => ?_)
    obtain ⟨h15_, r0⟩ := hd6 0 15 rfl rfl
    obtain ⟨h16_, r1⟩ := hd6 1 16 rfl rfl
    obtain ⟨h17_, r2⟩ := hd6 2 17 rfl rfl
    obtain ⟨h18_, r3⟩ := hd6 3 18 rfl rfl
    obtain ⟨h19_, r4⟩ := hd6 4 19 rfl rfl
    obtain ⟨h20_, r5⟩ := hd6 5 20 rfl rfl
    obtain ⟨h21_, r6⟩ := hd6 6 21 rfl rfl
    obtain ⟨h22_, r7⟩ := hd6 7 22 rfl rfl
    obtain ⟨h23_, r8⟩ := hd6 8 23 rfl rfl
    obtain ⟨h24_, r9⟩ := hd6 9 24 rfl rfl
    simp only [show List.range 10 = [0, 1, 2, 3, 4, 5, 6, 7, 8, 9] from rfl, List.flatMap_cons, List.flatMap_nil, List.map_cons, List.map_nil, r0, r1, r2, r3, r4, r5, r6, r7, r8, r9, List.nil_append, List.append_nil, List.cons_append] at hst
    refine RunL.slots (sl := [(1, .pointer (some ⟨_, _, none⟩)), (2, .bool _), (4, .pointer (some ⟨_, _, none⟩)), (5, .pointer (some ⟨_, _, none⟩)), (19, .bool _), (20, .agg #[.int .u16 _, str _, .bool _, .bool _, str _, str _, .int .i64 _, .int .u8 _]), (24, .agg #[.int .u16 _, str _, .bool _, .bool _, str _, str _, .int .i64 _, .int .u8 _])]) ⟨(hs5 1 rfl).trans rfl, (hs5 2 rfl).trans rfl, (hs5 4 rfl).trans rfl, (hs5 5 rfl).trans rfl, h19_, h20_, h24_, trivial⟩ ?_
    clear hs5 hd6 hr8 tab2
    refine RunL.take (t := 19) rfl (congrArg Value.bool (decide_eq_false g3)) (Op1.neqA (xs := [.int .u16 _, str _, .bool _, .bool _, str _, str _, .int .i64 _, .int .u8 _]) (ys := [.int .u16 _, str _, .bool _, .bool _, str _, str _, .int .i64 _, .int .u8 _]) rfl rfl (by kernel_rfl) (EqOk.struct Try.underlying38 (by kernel_rfl) (.cons (by decide) (PartOk.one ty36 rfl rfl) (PartOk.one ty36 rfl rfl) (EqOk.int ty36) (.cons (by decide) (PartOk.one ty9 rfl rfl) (PartOk.one ty9 rfl rfl) (EqOk.str ty9) (.cons (by decide) (PartOk.one ty4 rfl rfl) (PartOk.one ty4 rfl rfl) (EqOk.bool ty4) (.cons (by decide) (PartOk.one ty4 rfl rfl) (PartOk.one ty4 rfl rfl) (EqOk.bool ty4) (.cons (by decide) (PartOk.one ty9 rfl rfl) (PartOk.one ty9 rfl rfl) (EqOk.str ty9) (.cons (by decide) (PartOk.one ty9 rfl rfl) (PartOk.one ty9 rfl rfl) (EqOk.str ty9) (.cons (by decide) (PartOk.one ty3 rfl rfl) (PartOk.one ty3 rfl rfl) (EqOk.int ty3) (.cons (by decide) (PartOk.one ty5 rfl rfl) (PartOk.one ty5 rfl rfl) (EqOk.int ty5) .nil))))))))) ?_)
    refine RunL.cons (Op1.pickF (u := .bool _) (congrArg Value.bool (decide_eq_false g3)) rfl ?_)
    refine RunL.nil ?_
    refine Run.forget [(1, .pointer (some ⟨_, _, none⟩)), (2, .bool _), (4, .pointer (some ⟨_, _, none⟩)), (5, .pointer (some ⟨_, _, none⟩)), (26, .bool _)] ⟨rfl, rfl, rfl, rfl, rfl, trivial⟩ (fun f => ?_)
    refine run_cond_split rfl (fun g9 => ?_) (fun g9 => ?_)
    · skip
      exfalso
      simp at g9
    refine run_skip ?_
    refine run_seq ?_
    refine run_region ?_
    refine RunL.cons (Op1.load1 (v := .int .i64 _) ty3 rfl rfl (hst.cellL (.tail _ (.tail _ (.tail _ (.tail _ (.head _))))) rfl) ?_)
    refine RunL.cons (Op1.addN rfl rfl rfl (wrap_i64 (by omega) (by omega)) ?_)
    refine RunL.cons (Op1.store (v := .int .i64 _) hst ty3 rfl rfl rfl rfl rfl (.there (.there (.there (.there (.here))))) (by repeat (first | exact Put.nil | apply Put.put | apply Put.skip)) fun w hst => ?_)
    refine RunL.nil ?_
    refine run_seq ?_
    refine run_region ?_
    refine RunL.cons (Op1.load1 (v := .int .i64 _) ty3 rfl rfl (hst.cellL (.tail _ (.tail _ (.tail _ (.tail _ (.head _))))) rfl) ?_)
    refine RunL.cons (Op1.load1 (v := .int .i64 _) ty3 rfl rfl (hst.cellD (.tail _ (.tail _ (.tail _ (.head _)))) rfl) ?_)
    refine RunL.cons (Op1.eql rfl rfl ?_)
    refine RunL.nil ?_
    refine run_cond_dec rfl (fun g10 => ?_) (fun g10 => ?_)
    · skip
      refine run_exitR rfl hst (.there (.here)) fun w hst => ?_
      replace hst := hst.addProp (p := (i : Int) + 1 = stop) (by omega)
      replace hst := hst.pick (.cons (.there (.there (.here))) (.cons (.there (.there (.here))) (.cons (.here) (.cons (.there (.there (.here))) .nil))))
      exact .inr ⟨rfl, _, hst⟩
    refine run_skip ?_
    refine run_inBlock ?_
    refine run_endR hlp hst (.there (.here)) fun w hst => ?_
    replace hst := hst.addProp (p := (stop ≤ 0 ∨ (((i + 1 : Nat) : Int) : Int) < stop)) (by omega)
    replace hst := hst.pick (.cons (.there (.there (.here))) (.cons (.there (.there (.here))) (.cons (.here) (.cons (.there (.there (.here))) .nil))))
    exact .inl ⟨rfl, _, hst⟩
  · intro w bl br lp hst
    have hall : (stop ≤ 0 ∨ (refT.length : Int) < stop) := hst.hL _ (.tail _ (.tail _ (.head _)))
    refine run_inBlock ?_
    refine run_seq ?_
    refine run_region ?_
    refine RunL.cons (Op1.load1 (v := .slice _ _ _) ty42 rfl rfl (hst.cellL (.tail _ (.tail _ (.tail _ (.tail _ (.tail _ (.head _)))))) rfl) ?_)
    refine RunL.cons (Op1.lenSl (rest := []) ty42 rfl ?_)
    refine RunL.cons (Op1.assign (v := .int .i64 _) rfl ?_)
    refine RunL.nil ?_
    refine run_seq ?_
    refine run_seq ?_
    refine run_region ?_
    refine RunL.cons (Op1.load1 (v := .int .i64 _) ty3 rfl rfl (hst.cellL (.tail _ (.tail _ (.tail _ (.tail _ (.tail _ (.tail _ (.tail _ (.head _)))))))) rfl) ?_)
    refine RunL.cons (Op1.gtr rfl rfl ?_)
    refine RunL.cons (Op1.move (v := .bool _) rfl ?_)
    refine RunL.splitD (d := 36) rfl (fun g11 => ?_) (fun g11 => ?_)
    · skip
      refine RunL.take (t := 36) rfl (congrArg Value.bool (decide_eq_true g11)) (Op1.load1 (v := .int .i64 _) ty3 rfl rfl (hst.cellL (.tail _ (.tail _ (.tail _ (.tail _ (.tail _ (.tail _ (.tail _ (.head _)))))))) rfl) ?_)
      refine RunL.take (t := 36) rfl (congrArg Value.bool (decide_eq_true g11)) (Op1.move (v := .int .i64 _) rfl ?_)
      refine RunL.take (t := 36) rfl (congrArg Value.bool (decide_eq_true g11)) (Op1.lss rfl rfl ?_)
      refine RunL.cons (Op1.pickT (u := .bool _) (congrArg Value.bool (decide_eq_true g11)) rfl ?_)
      refine RunL.nil ?_
      refine Run.forget [(1, .pointer (some ⟨_, _, none⟩)), (4, .pointer (some ⟨_, _, none⟩)), (5, .pointer (some ⟨_, _, none⟩)), (8, .int .i64 _), (40, .bool _)] ⟨rfl, rfl, rfl, rfl, rfl, trivial⟩ (fun f => ?_)
      refine run_cond_dec rfl (fun g12 => ?_) (fun g12 => ?_)
      · skip
        refine run_region ?_
        refine RunL.cons (Op1.load1 (v := .int .i64 _) ty3 rfl rfl (hst.cellL (.tail _ (.tail _ (.tail _ (.tail _ (.tail _ (.tail _ (.tail _ (.head _)))))))) rfl) ?_)
        refine RunL.cons (Op1.assign (v := .int .i64 _) rfl ?_)
        refine RunL.nil ?_
        refine run_seq ?_
        refine run_region ?_
        refine RunL.cons (Op1.load1 (v := .bool _) ty4 rfl rfl (hst.cellL (.tail _ (.tail _ (.tail _ (.tail _ (.head _))))) rfl) ?_)
        refine RunL.cons (Op1.move (v := .bool _) rfl ?_)
        refine RunL.split (d := 43) rfl (fun g13 => ?_) (fun g13 => ?_)
        · skip
          refine RunL.take (t := 43) rfl (congrArg Value.bool g13) (Op1.load1 (v := .int .i64 _) ty3 rfl rfl (hst.cellL (.tail _ (.tail _ (.tail _ (.head _)))) rfl) ?_)
          refine RunL.take (t := 43) rfl (congrArg Value.bool g13) (Op1.move (v := .int .i64 _) rfl ?_)
          refine RunL.take (t := 43) rfl (congrArg Value.bool g13) (Op1.eql rfl rfl ?_)
          refine RunL.cons (Op1.pickT (u := .bool _) (congrArg Value.bool g13) rfl ?_)
          refine RunL.cons (Op1.assign (v := .bool _) rfl ?_)
          refine RunL.nil ?_
          replace hst := hst.pick (.cons (.there (.here)) (.cons (.here) (.cons (.here) (.cons (.here) (.cons (.here) (.cons (.here) (.cons (.here) (.cons (.here) .nil))))))))
          refine run_ret_marks [br] Try.func6 hst fun w hst => ⟨_, res1 rfl (RV.tmp (v := .bool _) rfl), ?_⟩
          exact ⟨congrArg Value.bool (decide_eq_true (by omega)), hst.pure⟩
        exfalso
        cases g13
      refine run_skip ?_
      refine run_seq ?_
      refine run_region ?_
      refine RunL.cons (Op1.load1 (v := .bool _) ty4 rfl rfl (hst.cellL (.tail _ (.tail _ (.tail _ (.tail _ (.head _))))) rfl) ?_)
      refine RunL.cons (Op1.move (v := .bool _) rfl ?_)
      refine RunL.split (d := 43) rfl (fun g14 => ?_) (fun g14 => ?_)
      · skip
        refine RunL.take (t := 43) rfl (congrArg Value.bool g14) (Op1.load1 (v := .int .i64 _) ty3 rfl rfl (hst.cellL (.tail _ (.tail _ (.tail _ (.head _)))) rfl) ?_)
        refine RunL.take (t := 43) rfl (congrArg Value.bool g14) (Op1.move (v := .int .i64 _) rfl ?_)
        refine RunL.take (t := 43) rfl (congrArg Value.bool g14) (Op1.eql rfl rfl ?_)
        refine RunL.cons (Op1.pickT (u := .bool _) (congrArg Value.bool g14) rfl ?_)
        refine RunL.cons (Op1.assign (v := .bool _) rfl ?_)
        refine RunL.nil ?_
        replace hst := hst.pick (.cons (.there (.here)) (.cons (.here) (.cons (.here) (.cons (.here) (.cons (.here) (.cons (.here) (.cons (.here) (.cons (.here) .nil))))))))
        refine run_ret_marks [br] Try.func6 hst fun w hst => ⟨_, res1 rfl (RV.tmp (v := .bool _) rfl), ?_⟩
        exact ⟨congrArg Value.bool (decide_eq_true (by omega)), hst.pure⟩
      exfalso
      cases g14
    refine RunL.omit (t := 36) rfl (congrArg Value.bool (decide_eq_false g11)) rfl ?_
    refine RunL.omit (t := 36) rfl (congrArg Value.bool (decide_eq_false g11)) rfl ?_
    refine RunL.omit (t := 36) rfl (congrArg Value.bool (decide_eq_false g11)) rfl ?_
    refine RunL.cons (Op1.pickF (u := .bool _) (congrArg Value.bool (decide_eq_false g11)) rfl ?_)
    refine RunL.nil ?_
    refine run_cond_false (congrArg Value.bool (rfl : false = _)) ?_
    refine run_skip ?_
    refine run_seq ?_
    refine run_region ?_
    refine RunL.cons (Op1.load1 (v := .bool _) ty4 rfl rfl (hst.cellL (.tail _ (.tail _ (.tail _ (.tail _ (.head _))))) rfl) ?_)
    refine RunL.cons (Op1.move (v := .bool _) rfl ?_)
    refine RunL.split (d := 43) rfl (fun g15 => ?_) (fun g15 => ?_)
    · skip
      refine RunL.take (t := 43) rfl (congrArg Value.bool g15) (Op1.load1 (v := .int .i64 _) ty3 rfl rfl (hst.cellL (.tail _ (.tail _ (.tail _ (.head _)))) rfl) ?_)
      refine RunL.take (t := 43) rfl (congrArg Value.bool g15) (Op1.move (v := .int .i64 _) rfl ?_)
      refine RunL.take (t := 43) rfl (congrArg Value.bool g15) (Op1.eql rfl rfl ?_)
      refine RunL.cons (Op1.pickT (u := .bool _) (congrArg Value.bool g15) rfl ?_)
      refine RunL.cons (Op1.assign (v := .bool _) rfl ?_)
      refine RunL.nil ?_
      replace hst := hst.pick (.cons (.there (.here)) (.cons (.here) (.cons (.here) (.cons (.here) (.cons (.here) (.cons (.here) (.cons (.here) (.cons (.here) .nil))))))))
      refine run_ret_marks [br] Try.func6 hst fun w hst => ⟨_, res1 rfl (RV.tmp (v := .bool _) rfl), ?_⟩
      exact ⟨congrArg Value.bool (decide_eq_true (by omega)), hst.pure⟩
    exfalso
    cases g15
  · intro i hi w bl br lp hst
    have hs : (i : Int) + 1 = stop := hst.hL _ (.tail _ (.tail _ (.head _)))
    refine run_exit (id := 0) rfl ?_
    refine run_seq ?_
    refine run_region ?_
    refine RunL.cons (Op1.load1 (v := .slice _ _ _) ty42 rfl rfl (hst.cellL (.tail _ (.tail _ (.tail _ (.tail _ (.tail _ (.head _)))))) rfl) ?_)
    refine RunL.cons (Op1.lenSl (rest := []) ty42 rfl ?_)
    refine RunL.cons (Op1.assign (v := .int .i64 _) rfl ?_)
    refine RunL.nil ?_
    refine run_seq ?_
    refine run_seq ?_
    refine run_region ?_
    refine RunL.cons (Op1.load1 (v := .int .i64 _) ty3 rfl rfl (hst.cellL (.tail _ (.tail _ (.tail _ (.tail _ (.tail _ (.tail _ (.tail _ (.head _)))))))) rfl) ?_)
    refine RunL.cons (Op1.gtr rfl rfl ?_)
    refine RunL.cons (Op1.move (v := .bool _) rfl ?_)
    refine RunL.splitD (d := 36) rfl (fun g16 => ?_) (fun g16 => ?_)
    · skip
      refine RunL.take (t := 36) rfl (congrArg Value.bool (decide_eq_true g16)) (Op1.load1 (v := .int .i64 _) ty3 rfl rfl (hst.cellL (.tail _ (.tail _ (.tail _ (.tail _ (.tail _ (.tail _ (.tail _ (.head _)))))))) rfl) ?_)
      refine RunL.take (t := 36) rfl (congrArg Value.bool (decide_eq_true g16)) (Op1.move (v := .int .i64 _) rfl ?_)
      refine RunL.take (t := 36) rfl (congrArg Value.bool (decide_eq_true g16)) (Op1.lss rfl rfl ?_)
      refine RunL.cons (Op1.pickT (u := .bool _) (congrArg Value.bool (decide_eq_true g16)) rfl ?_)
      refine RunL.nil ?_
      refine Run.forget [(1, .pointer (some ⟨_, _, none⟩)), (4, .pointer (some ⟨_, _, none⟩)), (5, .pointer (some ⟨_, _, none⟩)), (8, .int .i64 _), (40, .bool _)] ⟨rfl, rfl, rfl, rfl, rfl, trivial⟩ (fun f => ?_)
      refine run_cond_dec rfl (fun g17 => ?_) (fun g17 => ?_)
      · skip
        refine run_region ?_
        refine RunL.cons (Op1.load1 (v := .int .i64 _) ty3 rfl rfl (hst.cellL (.tail _ (.tail _ (.tail _ (.tail _ (.tail _ (.tail _ (.tail _ (.head _)))))))) rfl) ?_)
        refine RunL.cons (Op1.assign (v := .int .i64 _) rfl ?_)
        refine RunL.nil ?_
        refine run_seq ?_
        refine run_region ?_
        refine RunL.cons (Op1.load1 (v := .bool _) ty4 rfl rfl (hst.cellL (.tail _ (.tail _ (.tail _ (.tail _ (.head _))))) rfl) ?_)
        refine RunL.cons (Op1.move (v := .bool _) rfl ?_)
        refine RunL.split (d := 43) rfl (fun g18 => ?_) (fun g18 => ?_)
        · skip
          refine RunL.take (t := 43) rfl (congrArg Value.bool g18) (Op1.load1 (v := .int .i64 _) ty3 rfl rfl (hst.cellL (.tail _ (.tail _ (.tail _ (.head _)))) rfl) ?_)
          refine RunL.take (t := 43) rfl (congrArg Value.bool g18) (Op1.move (v := .int .i64 _) rfl ?_)
          refine RunL.take (t := 43) rfl (congrArg Value.bool g18) (Op1.eql rfl rfl ?_)
          refine RunL.cons (Op1.pickT (u := .bool _) (congrArg Value.bool g18) rfl ?_)
          refine RunL.cons (Op1.assign (v := .bool _) rfl ?_)
          refine RunL.nil ?_
          replace hst := hst.pick (.cons (.there (.here)) (.cons (.here) (.cons (.here) (.cons (.here) (.cons (.here) (.cons (.here) (.cons (.here) (.cons (.here) .nil))))))))
          refine run_ret_marks [br] Try.func6 hst fun w hst => ⟨_, res1 rfl (RV.tmp (v := .bool _) rfl), ?_⟩
          exact ⟨congrArg Value.bool (decide_eq_true (by omega)), hst.pure⟩
        exfalso
        cases g18
      refine run_skip ?_
      refine run_seq ?_
      refine run_region ?_
      refine RunL.cons (Op1.load1 (v := .bool _) ty4 rfl rfl (hst.cellL (.tail _ (.tail _ (.tail _ (.tail _ (.head _))))) rfl) ?_)
      refine RunL.cons (Op1.move (v := .bool _) rfl ?_)
      refine RunL.split (d := 43) rfl (fun g19 => ?_) (fun g19 => ?_)
      · skip
        refine RunL.take (t := 43) rfl (congrArg Value.bool g19) (Op1.load1 (v := .int .i64 _) ty3 rfl rfl (hst.cellL (.tail _ (.tail _ (.tail _ (.head _)))) rfl) ?_)
        refine RunL.take (t := 43) rfl (congrArg Value.bool g19) (Op1.move (v := .int .i64 _) rfl ?_)
        refine RunL.take (t := 43) rfl (congrArg Value.bool g19) (Op1.eql rfl rfl ?_)
        refine RunL.cons (Op1.pickT (u := .bool _) (congrArg Value.bool g19) rfl ?_)
        refine RunL.cons (Op1.assign (v := .bool _) rfl ?_)
        refine RunL.nil ?_
        replace hst := hst.pick (.cons (.there (.here)) (.cons (.here) (.cons (.here) (.cons (.here) (.cons (.here) (.cons (.here) (.cons (.here) (.cons (.here) .nil))))))))
        refine run_ret_marks [br] Try.func6 hst fun w hst => ⟨_, res1 rfl (RV.tmp (v := .bool _) rfl), ?_⟩
        exact ⟨congrArg Value.bool (decide_eq_true (by omega)), hst.pure⟩
      exfalso
      cases g19
    refine RunL.omit (t := 36) rfl (congrArg Value.bool (decide_eq_false g16)) rfl ?_
    refine RunL.omit (t := 36) rfl (congrArg Value.bool (decide_eq_false g16)) rfl ?_
    refine RunL.omit (t := 36) rfl (congrArg Value.bool (decide_eq_false g16)) rfl ?_
    refine RunL.cons (Op1.pickF (u := .bool _) (congrArg Value.bool (decide_eq_false g16)) rfl ?_)
    refine RunL.nil ?_
    refine run_cond_false (congrArg Value.bool (rfl : false = _)) ?_
    refine run_skip ?_
    refine run_seq ?_
    refine run_region ?_
    refine RunL.cons (Op1.load1 (v := .bool _) ty4 rfl rfl (hst.cellL (.tail _ (.tail _ (.tail _ (.tail _ (.head _))))) rfl) ?_)
    refine RunL.cons (Op1.move (v := .bool _) rfl ?_)
    refine RunL.split (d := 43) rfl (fun g20 => ?_) (fun g20 => ?_)
    · skip
      refine RunL.take (t := 43) rfl (congrArg Value.bool g20) (Op1.load1 (v := .int .i64 _) ty3 rfl rfl (hst.cellL (.tail _ (.tail _ (.tail _ (.head _)))) rfl) ?_)
      refine RunL.take (t := 43) rfl (congrArg Value.bool g20) (Op1.move (v := .int .i64 _) rfl ?_)
      refine RunL.take (t := 43) rfl (congrArg Value.bool g20) (Op1.eql rfl rfl ?_)
      refine RunL.cons (Op1.pickT (u := .bool _) (congrArg Value.bool g20) rfl ?_)
      refine RunL.cons (Op1.assign (v := .bool _) rfl ?_)
      refine RunL.nil ?_
      replace hst := hst.pick (.cons (.there (.here)) (.cons (.here) (.cons (.here) (.cons (.here) (.cons (.here) (.cons (.here) (.cons (.here) (.cons (.here) .nil))))))))
      refine run_ret_marks [br] Try.func6 hst fun w hst => ⟨_, res1 rfl (RV.tmp (v := .bool _) rfl), ?_⟩
      exact ⟨congrArg Value.bool (decide_eq_true (by omega)), hst.pure⟩
    exfalso
    cases g20

theorem R2gr_Named (q : Byts) (w : World) : Ret Try.prog 23 #[str q] w (fun v w' => v = formV (refT.find? (nmF q)) ∧ St w NoM [] [] w') := by
  refine Ret.enter (args := [str q]) Try.func23 rfl rfl rfl ?_
  have hst := St.init w
  refine run_seq ?_
  refine run_region ?_
  refine RunL.cons (Op1.box (v := str _) hst rfl rfl fun w b1 hst => ?_)
  refine RunL.cons (Op1.alloc hst ty38 fun w b2 hst => ?_)
  refine RunL.cons (Op1.alloc hst ty4 fun w b3 hst => ?_)
  refine RunL.nil ?_
  refine run_seq ?_
  refine run_seq ?_
  refine run_region ?_
  refine RunL.cons (Op1.call0  ent21 rfl  ((R2gr_All _).mono fun v w hp => ?_))
  obtain ⟨rfl, hp⟩ := hp
  replace hst := hst.keepc hp
  clear hp
  refine RunL.nil ?_
  refine run_block ?_
  replace hst := hst.addProp (p := (refT.drop 0).find? (nmF q) = refT.find? (nmF q)) (rfl)
  replace hst := hst.pick (.cons (.here) (.cons (.there (.here)) (.cons (.here) (.cons (.here) .nil))))
  refine run_rangeIter (L1 := [_, _, _]) (L2 := [_]) (item := (fun j => [.agg (formC (refT.getD j zeroF)).toArray])) (FD := (fun _ => False)) (fun i => [Res.prop ((refT.drop i).find? (nmF q) = refT.find? (nmF q)), Res.row b2 38 [.int .u16 zeroF.op, str zeroF.name, .bool zeroF.ty, .bool zeroF.res, str zeroF.fixed, str zeroF.rest, .int .i64 zeroF.most, .int .u8 zeroF.part], Res.row b3 4 [.bool false]]) (fun i => [Res.prop (refT.find? (nmF q) = some (refT.getD i zeroF)), Res.row b2 38 [.int .u16 (refT.getD i zeroF).op, str (refT.getD i zeroF).name, .bool (refT.getD i zeroF).ty, .bool (refT.getD i zeroF).res, str (refT.getD i zeroF).fixed, str (refT.getD i zeroF).rest, .int .i64 (refT.getD i zeroF).most, .int .u8 (refT.getD i zeroF).part], Res.row b3 4 [.bool true]]) (fun _ => .ret) hst rfl rfl ent36 (fun b hb => hb.elim) (fun w1 _ => R2all_iter w1) (fun _ _ => rfl) ?_ ?_ ?_
  · intro i hi w bl br lp hlp hst hk
    have hprop : (refT.drop i).find? (nmF q) = refT.find? (nmF q) := hst.hL _ (.tail _ (.tail _ (.head _)))
    refine run_region ?_
    refine RunL.cons (Op1.alloc hst ty38 fun w b4 hst => ?_)
    refine RunL.cons (Op1.store (v := .agg #[.int .u16 _, str _, .bool _, .bool _, str _, str _, .int .i64 _, .int .u8 _]) hst ty38 rfl rfl rfl rfl rfl (.here) (by repeat (first | exact Put.nil | apply Put.put | apply Put.skip)) fun w hst => ?_)
    refine RunL.nil ?_
    refine run_beginR hlp hst (.there (.here)) fun w hst => ?_
    refine run_block ?_
    refine run_seq ?_
    refine run_region ?_
    refine RunL.cons (Op1.fieldAddr fld38_1 rfl ?_)
    refine RunL.cons (Op1.load1 (v := str _) ty9 rfl rfl (hst.cellL (.head _) rfl) ?_)
    refine RunL.cons (Op1.load1 (v := str _) ty9 rfl rfl (hst.cellD (.head _) rfl) ?_)
    refine RunL.cons (Op1.eqlS rfl rfl ?_)
    refine RunL.nil ?_
    refine run_cond_dec rfl (fun g1 => ?_) (fun g1 => ?_)
    · skip
      refine run_seq ?_
      refine run_region ?_
      refine RunL.cons (Op1.loadA (vs := [.int .u16 _, str _, .bool _, .bool _, str _, str _, .int .i64 _, .int .u8 _]) ty38 rfl rfl rfl (cells_of_obj (n := 8) (hst.objL (.head _)) _ rfl) ?_)
      refine RunL.cons (Op1.store (v := .agg #[.int .u16 _, str _, .bool _, .bool _, str _, str _, .int .i64 _, .int .u8 _]) hst ty38 rfl rfl rfl rfl rfl (.there (.there (.there (.there (.here))))) (by repeat (first | exact Put.nil | apply Put.put | apply Put.skip)) fun w hst => ?_)
      refine RunL.cons (Op1.store (v := .bool _) hst ty4 rfl rfl rfl rfl rfl (.there (.there (.there (.there (.there (.here)))))) (by repeat (first | exact Put.nil | apply Put.put | apply Put.skip)) fun w hst => ?_)
      refine RunL.nil ?_
      refine run_retR hst (.there (.here)) fun w hst => ?_
      replace hst := hst.addProp (p := refT.find? (nmF q) = some (refT.getD i zeroF)) (find_hit (d := zeroF) hprop hi (decide_eq_true g1))
      replace hst := hst.pick (.cons (.there (.there (.here))) (.cons (.there (.there (.here))) (.cons (.here) (.cons (.there (.there (.here))) (.cons (.there (.there (.here))) .nil)))))
      exact .inr ⟨rfl, _, hst⟩
    refine run_skip ?_
    refine run_inBlock ?_
    refine run_endR hlp hst (.there (.here)) fun w hst => ?_
    replace hst := hst.addProp (p := (refT.drop (i + 1)).find? (nmF q) = refT.find? (nmF q)) (find_miss (d := zeroF) hprop hi (decide_eq_false g1))
    replace hst := hst.pick (.cons (.there (.there (.here))) (.cons (.there (.there (.here))) (.cons (.here) (.cons (.there (.there (.here))) (.cons (.there (.there (.here))) .nil)))))
    exact .inl ⟨rfl, _, hst⟩
  · intro w bl br lp hst
    have hall : (refT.drop refT.length).find? (nmF q) = refT.find? (nmF q) := hst.hL _ (.tail _ (.tail _ (.head _)))
    refine run_inBlock ?_
    refine run_seq ?_
    refine run_region ?_
    refine RunL.cons (Op1.buildStruct ty38 stf38 .nil ?_)
    refine RunL.cons (Op1.store (v := .agg #[.int .u16 _, str _, .bool _, .bool _, str _, str _, .int .i64 _, .int .u8 _]) hst ty38 rfl rfl rfl rfl rfl (.there (.there (.there (.here)))) (by repeat (first | exact Put.nil | apply Put.put | apply Put.skip)) fun w hst => ?_)
    refine RunL.cons (Op1.store (v := .bool _) hst ty4 rfl rfl rfl rfl rfl (.there (.there (.there (.there (.here))))) (by repeat (first | exact Put.nil | apply Put.put | apply Put.skip)) fun w hst => ?_)
    refine RunL.nil ?_
    replace hst := hst.pick (.cons (.there (.here)) (.cons (.here) (.cons (.here) (.cons (.here) (.cons (.here) (.cons (.here) .nil))))))
    refine run_ret_marks [br] Try.func23 hst fun w hst => ⟨_, res2 rfl (RV.cellA (vs := [.int .u16 _, str _, .bool _, .bool _, str _, str _, .int .i64 _, .int .u8 _]) rfl ty38 rfl rfl (cells_of_obj (n := 8) (hst.objL (.tail _ (.tail _ (.head _)))) _ rfl)) (RV.cell1 (v := .bool _) rfl ty4 rfl (hst.cellL (.tail _ (.tail _ (.tail _ (.head _)))) rfl)), ?_⟩
    rw [find_end hall (Nat.le_refl _)]
    exact ⟨rfl, hst.pure⟩
  · intro i hi w bl br lp hst
    have hs : refT.find? (nmF q) = some (refT.getD i zeroF) := hst.hL _ (.tail _ (.tail _ (.head _)))
    replace hst := hst.pick (.cons (.there (.here)) (.cons (.here) (.cons (.here) (.cons (.here) (.cons (.here) (.cons (.here) .nil))))))
    refine run_ret_marks [br] Try.func23 hst fun w hst => ⟨_, res2 rfl (RV.cellA (vs := [.int .u16 _, str _, .bool _, .bool _, str _, str _, .int .i64 _, .int .u8 _]) rfl ty38 rfl rfl (cells_of_obj (n := 8) (hst.objL (.tail _ (.tail _ (.head _)))) _ rfl)) (RV.cell1 (v := .bool _) rfl ty4 rfl (hst.cellL (.tail _ (.tail _ (.tail _ (.head _)))) rfl)), ?_⟩
    rw [hs]
    exact ⟨rfl, hst.pure⟩

theorem R2ref_Named (q : Byts) (w : World) : Ret Try.prog 22 #[str q] w (fun v w' => v = formV (refT.find? (nmF q)) ∧ St w NoM [] [] w') := by
  refine Ret.enter (args := [str q]) Try.func22 rfl rfl rfl ?_
  have hst := St.init w
  have hrl := refT_len
  refine run_seq ?_
  refine run_region ?_
  refine RunL.cons (Op1.alloc hst ty38 fun w b2 hst => ?_)
  refine RunL.cons (Op1.assign (v := .bool _) rfl ?_)
  refine RunL.nil ?_
  refine run_seq ?_
  refine run_region ?_
  refine RunL.cons (Op1.call0  ent20 rfl  ((R2ref_All _).mono fun v w hp => ?_))
  obtain ⟨aoF, cpF, rfl, hp⟩ := hp
  replace hst := hst.call0 hp
  clear hp
  refine RunL.cons (Op1.assign (v := .slice _ _ _) rfl ?_)
  refine RunL.nil ?_
  refine run_seq ?_
  refine run_seq ?_
  refine run_region ?_
  refine RunL.cons (Op1.assign (v := .int .i64 _) rfl ?_)
  refine RunL.nil ?_
  refine run_block ?_
  refine run_loop ?_
  refine Run.indW [(0, str _), (2, .pointer (some ⟨_, _, none⟩)), (4, .slice _ _ _)] ⟨rfl, rfl, rfl, trivial⟩ (fun (i : Nat) => [(5, .int .i64 (i : Int))]) (fun (i : Nat) => []) (fun (i : Nat) => i ≤ refT.length ∧ (refT.drop i).find? (nmF q) = refT.find? (nmF q)) (fun (i : Nat) => refT.length - i) (0) hst ⟨Nat.zero_le _, rfl⟩ ⟨rfl, trivial⟩ ?_
  intro i f w hst hJ ih1
  refine run_seq ?_
  refine run_seq ?_
  refine run_region ?_
  refine RunL.cons (Op1.move (v := .int .i64 _) rfl ?_)
  refine RunL.cons (Op1.move (v := .slice _ _ _) rfl ?_)
  refine RunL.cons (Op1.lenSl (rest := []) ty42 rfl ?_)
  refine RunL.cons (Op1.lss rfl rfl ?_)
  refine RunL.nil ?_
  refine run_cond_dec rfl (fun g2 => ?_) (fun g2 => ?_)
  · skip
    refine run_skip ?_
    refine run_seq ?_
    refine run_block ?_
    refine run_seq ?_
    obtain ⟨bs3, rfl⟩ := Res.sl_some (hst.hL _ (.head _)) (by omega)
    refine run_region ?_
    refine RunL.cons (Op1.move (v := .slice _ _ _) rfl ?_)
    refine RunL.cons (Op1.move (v := .int .i64 _) rfl ?_)
    refine RunL.cons (Op1.indexSl ty42 ty38 rfl rfl (by omega) (by omega) ?_)
    refine RunL.cons (Op1.fieldAddr fld38_1 rfl ?_)
    refine RunL.cons (Op1.load1 (v := str _) ty9 rfl rfl (Res.sl_cell (hst.hL _ (.head _)) (flat_cell (g := formC) (d := zeroF) formC_len rfl (by omega))) ?_)
    refine RunL.cons (Op1.move (v := str _) rfl ?_)
    refine RunL.cons (Op1.eqlS rfl rfl ?_)
    refine RunL.nil ?_
    refine run_cond_dec rfl (fun g4 => ?_) (fun g4 => ?_)
    · skip
      refine run_seq ?_
      refine run_region ?_
      refine RunL.cons (Op1.move (v := .slice _ _ _) rfl ?_)
      refine RunL.cons (Op1.move (v := .int .i64 _) rfl ?_)
      refine RunL.cons (Op1.indexSl ty42 ty38 rfl rfl (by omega) (by omega) ?_)
      refine RunL.cons (Op1.loadA (vs := [.int .u16 _, str _, .bool _, .bool _, str _, str _, .int .i64 _, .int .u8 _]) ty38 rfl rfl rfl (Res.sl_cells (k := 8) (hst.hL _ (.head _)) _ (flat_seg (g := formC) (d := zeroF) formC_len _ _ (by omega))) ?_)
      refine RunL.cons (Op1.store (v := .agg #[.int .u16 _, str _, .bool _, .bool _, str _, str _, .int .i64 _, .int .u8 _]) hst ty38 rfl rfl rfl rfl rfl (.there (.here)) (by repeat (first | exact Put.nil | apply Put.put | apply Put.skip)) fun w hst => ?_)
      refine RunL.cons (Op1.assign (v := .bool _) rfl ?_)
      refine RunL.nil ?_
      refine run_ret2 Try.func22 rfl (RV.cellA (vs := [.int .u16 _, str _, .bool _, .bool _, str _, str _, .int .i64 _, .int .u8 _]) rfl ty38 rfl rfl (cells_of_obj (n := 8) (hst.objL (.tail _ (.head _))) _ rfl)) (RV.tmp (v := .bool _) rfl) ?_
      rw [find_hit (d := zeroF) hJ.2 (by omega) (decide_eq_true g4)]
      exact ⟨rfl, hst.pure⟩
    refine run_skip ?_
    refine run_inBlock ?_
    refine run_region ?_
    refine RunL.cons (Op1.move (v := .int .i64 _) rfl ?_)
    refine RunL.cons (Op1.addN rfl rfl rfl (wrap_i64 (by omega) (by omega)) ?_)
    refine RunL.cons (Op1.assign (v := .int .i64 _) rfl ?_)
    refine RunL.nil ?_
    refine run_inLoop ?_
    exact ih1 (i + 1) _ w (by omega) hst (⟨by omega, find_miss (d := zeroF) hJ.2 (by omega) (decide_eq_false g4)⟩) ⟨rfl, rfl, rfl, trivial⟩ ⟨(congrArg (Value.int .i64) (by omega)), trivial⟩
  refine run_exit (id := 0) rfl ?_
  refine run_seq ?_
  refine run_region ?_
  refine RunL.cons (Op1.buildStruct ty38 stf38 .nil ?_)
  refine RunL.cons (Op1.store (v := .agg #[.int .u16 _, str _, .bool _, .bool _, str _, str _, .int .i64 _, .int .u8 _]) hst ty38 rfl rfl rfl rfl rfl (.there (.here)) (by repeat (first | exact Put.nil | apply Put.put | apply Put.skip)) fun w hst => ?_)
  refine RunL.cons (Op1.assign (v := .bool _) rfl ?_)
  refine RunL.nil ?_
  refine run_ret2 Try.func22 rfl (RV.cellA (vs := [.int .u16 _, str _, .bool _, .bool _, str _, str _, .int .i64 _, .int .u8 _]) rfl ty38 rfl rfl (cells_of_obj (n := 8) (hst.objL (.tail _ (.head _))) _ rfl)) (RV.tmp (v := .bool _) rfl) ?_
  rw [find_end hJ.2 (by omega)]
  exact ⟨rfl, hst.pure⟩

theorem R2law_GrammarNamed (q : Byts) (w : World) : Ret Try.prog 7 #[str q] w (fun v w' => v = .bool true ∧ St w NoM [] [] w') := by
  refine Ret.enter (args := [str q]) Try.func7 rfl rfl rfl ?_
  have hst := St.init w
  refine run_seq ?_
  refine run_region ?_
  refine RunL.cons (Op1.assign (v := .bool _) rfl ?_)
  refine RunL.nil ?_
  refine run_seq ?_
  refine run_region ?_
  refine RunL.cons (Op1.move (v := str _) rfl ?_)
  refine RunL.cons (Op1.call1 (v1 := str _) ent22 rfl rfl ((R2ref_Named _ _).mono fun v w hp => ?_))
  obtain ⟨rfl, hp⟩ := hp
  replace hst := hst.keepc hp
  clear hp
  refine RunL.cons (Op1.move (v := .tuple #[.agg #[.int .u16 _, str _, .bool _, .bool _, str _, str _, .int .i64 _, .int .u8 _], .bool _]) rfl ?_)
  refine RunL.cons (Op1.extract (v := .agg #[.int .u16 _, str _, .bool _, .bool _, str _, str _, .int .i64 _, .int .u8 _]) rfl rfl ?_)
  refine RunL.cons (Op1.extract (v := .bool _) rfl rfl ?_)
  refine RunL.cons (Op1.alloc hst ty38 fun w b3 hst => ?_)
  refine RunL.cons (Op1.store (v := .agg #[.int .u16 _, str _, .bool _, .bool _, str _, str _, .int .i64 _, .int .u8 _]) hst ty38 rfl rfl rfl rfl rfl (.here) (by repeat (first | exact Put.nil | apply Put.put | apply Put.skip)) fun w hst => ?_)
  refine RunL.cons (Op1.assign (v := .bool _) rfl ?_)
  refine RunL.nil ?_
  refine run_seq ?_
  refine run_region ?_
  refine RunL.cons (Op1.move (v := str _) rfl ?_)
  refine RunL.cons (Op1.call1 (v1 := str _) ent23 rfl rfl ((R2gr_Named _ _).mono fun v w hp => ?_))
  obtain ⟨rfl, hp⟩ := hp
  replace hst := hst.keepc hp
  clear hp
  refine RunL.cons (Op1.move (v := .tuple #[.agg #[.int .u16 _, str _, .bool _, .bool _, str _, str _, .int .i64 _, .int .u8 _], .bool _]) rfl ?_)
  refine RunL.cons (Op1.extract (v := .agg #[.int .u16 _, str _, .bool _, .bool _, str _, str _, .int .i64 _, .int .u8 _]) rfl rfl ?_)
  refine RunL.cons (Op1.extract (v := .bool _) rfl rfl ?_)
  refine RunL.cons (Op1.alloc hst ty38 fun w b5 hst => ?_)
  refine RunL.cons (Op1.store (v := .agg #[.int .u16 _, str _, .bool _, .bool _, str _, str _, .int .i64 _, .int .u8 _]) hst ty38 rfl rfl rfl rfl rfl (.here) (by repeat (first | exact Put.nil | apply Put.put | apply Put.skip)) fun w hst => ?_)
  refine RunL.cons (Op1.assign (v := .bool _) rfl ?_)
  refine RunL.nil ?_
  refine run_seq ?_
  refine run_region ?_
  refine RunL.cons (Op1.loadA (vs := [.int .u16 _, str _, .bool _, .bool _, str _, str _, .int .i64 _, .int .u8 _]) ty38 rfl rfl rfl (cells_of_obj (n := 8) (hst.objL (.head _)) _ rfl) ?_)
  refine RunL.cons (Op1.loadA (vs := [.int .u16 _, str _, .bool _, .bool _, str _, str _, .int .i64 _, .int .u8 _]) ty38 rfl rfl rfl (cells_of_obj (n := 8) (hst.objL (.tail _ (.head _))) _ rfl) ?_)
  refine RunL.cons (Op1.eqlA (xs := [.int .u16 _, str _, .bool _, .bool _, str _, str _, .int .i64 _, .int .u8 _]) (ys := [.int .u16 _, str _, .bool _, .bool _, str _, str _, .int .i64 _, .int .u8 _]) rfl rfl (by kernel_rfl) (EqOk.struct Try.underlying38 (by kernel_rfl) (.cons (by decide) (PartOk.one ty36 rfl rfl) (PartOk.one ty36 rfl rfl) (EqOk.int ty36) (.cons (by decide) (PartOk.one ty9 rfl rfl) (PartOk.one ty9 rfl rfl) (EqOk.str ty9) (.cons (by decide) (PartOk.one ty4 rfl rfl) (PartOk.one ty4 rfl rfl) (EqOk.bool ty4) (.cons (by decide) (PartOk.one ty4 rfl rfl) (PartOk.one ty4 rfl rfl) (EqOk.bool ty4) (.cons (by decide) (PartOk.one ty9 rfl rfl) (PartOk.one ty9 rfl rfl) (EqOk.str ty9) (.cons (by decide) (PartOk.one ty9 rfl rfl) (PartOk.one ty9 rfl rfl) (EqOk.str ty9) (.cons (by decide) (PartOk.one ty3 rfl rfl) (PartOk.one ty3 rfl rfl) (EqOk.int ty3) (.cons (by decide) (PartOk.one ty5 rfl rfl) (PartOk.one ty5 rfl rfl) (EqOk.int ty5) .nil))))))))) ?_)
  refine RunL.cons (Op1.move (v := .bool _) rfl ?_)
  refine RunL.split (d := 20) rfl (fun g1 => ?_) (fun g1 => ?_)
  · skip
    refine RunL.take (t := 20) rfl (congrArg Value.bool g1) (Op1.move (v := .bool _) rfl ?_)
    refine RunL.take (t := 20) rfl (congrArg Value.bool g1) (Op1.move (v := .bool _) rfl ?_)
    refine RunL.take (t := 20) rfl (congrArg Value.bool g1) (Op1.eqlB ty4 rfl rfl ?_)
    refine RunL.cons (Op1.pickT (u := .bool _) (congrArg Value.bool g1) rfl ?_)
    refine RunL.cons (Op1.assign (v := .bool _) rfl ?_)
    refine RunL.nil ?_
    refine run_ret1 Try.func7 rfl (RV.tmp (v := .bool _) rfl) ?_
    exact ⟨by simp, hst.pure⟩
  exfalso
  simp at g1

theorem R2gr_Kind (c : Int) (w : World) : Ret Try.prog 26 #[.int .u8 c] w (fun v w' => v = .int .u8 (kindS c) ∧ St w NoM [] [] w') := by
  refine Ret.enter (args := [.int .u8 c]) Try.func26 rfl rfl rfl ?_
  have hst := St.init w
  refine run_seq ?_
  refine run_region ?_
  refine RunL.cons (Op1.assign (v := .int .u8 _) rfl ?_)
  refine RunL.nil ?_
  refine run_seq ?_
  refine run_seq ?_
  refine run_region ?_
  refine RunL.cons (Op1.move (v := .int .u8 _) rfl ?_)
  refine RunL.nil ?_
  refine run_block ?_
  refine run_seq ?_
  refine run_region ?_
  refine RunL.cons (Op1.eql rfl rfl ?_)
  refine RunL.cons (Op1.assign (v := .bool _) rfl ?_)
  refine RunL.nil ?_
  refine run_cond_dec rfl (fun g1 => ?_) (fun g1 => ?_)
  · skip
    refine run_seq ?_
    refine run_region ?_
    refine RunL.cons (Op1.assign (v := .int .u8 _) rfl ?_)
    refine RunL.nil ?_
    refine run_ret1 Try.func26 rfl (RV.tmp (v := .int .u8 _) rfl) ?_
    refine ⟨congrArg (Value.int .u8) (Eq.symm ?_), hst.pure⟩
    unfold kindS
    rw [if_pos g1]
  refine run_seq ?_
  refine run_region ?_
  refine RunL.cons (Op1.eql rfl rfl ?_)
  refine RunL.cons (Op1.assign (v := .bool _) rfl ?_)
  refine RunL.nil ?_
  refine run_cond_dec rfl (fun g2 => ?_) (fun g2 => ?_)
  · skip
    refine run_seq ?_
    refine run_region ?_
    refine RunL.cons (Op1.assign (v := .int .u8 _) rfl ?_)
    refine RunL.nil ?_
    refine run_ret1 Try.func26 rfl (RV.tmp (v := .int .u8 _) rfl) ?_
    refine ⟨congrArg (Value.int .u8) (Eq.symm ?_), hst.pure⟩
    unfold kindS
    rw [if_neg g1, if_pos g2]
  refine run_seq ?_
  refine run_region ?_
  refine RunL.cons (Op1.eql rfl rfl ?_)
  refine RunL.cons (Op1.assign (v := .bool _) rfl ?_)
  refine RunL.nil ?_
  refine run_cond_dec rfl (fun g3 => ?_) (fun g3 => ?_)
  · skip
    refine run_seq ?_
    refine run_region ?_
    refine RunL.cons (Op1.assign (v := .int .u8 _) rfl ?_)
    refine RunL.nil ?_
    refine run_ret1 Try.func26 rfl (RV.tmp (v := .int .u8 _) rfl) ?_
    refine ⟨congrArg (Value.int .u8) (Eq.symm ?_), hst.pure⟩
    unfold kindS
    rw [if_neg g1, if_neg g2, if_pos g3]
  refine run_skip ?_
  refine run_inBlock ?_
  refine run_seq ?_
  refine run_seq ?_
  refine run_region ?_
  refine RunL.cons (Op1.move (v := .int .u8 _) rfl ?_)
  refine RunL.cons (Op1.call1 (v1 := .int .u8 _) ent31 rfl rfl ((R2gr_names _ _).mono fun v w hp => ?_))
  obtain ⟨rfl, hp⟩ := hp
  replace hst := hst.keepc hp
  clear hp
  refine RunL.cons (Op1.neqS rfl rfl ?_)
  refine RunL.nil ?_
  refine run_cond_dec rfl (fun g4 => ?_) (fun g4 => ?_)
  · skip
    refine run_seq ?_
    refine run_region ?_
    refine RunL.cons (Op1.assign (v := .int .u8 _) rfl ?_)
    refine RunL.nil ?_
    refine run_ret1 Try.func26 rfl (RV.tmp (v := .int .u8 _) rfl) ?_
    refine ⟨congrArg (Value.int .u8) (Eq.symm ?_), hst.pure⟩
    unfold kindS
    rw [if_neg g1, if_neg g2, if_neg g3, if_pos g4]
  refine run_skip ?_
  refine run_seq ?_
  refine run_region ?_
  refine RunL.cons (Op1.assign (v := .int .u8 _) rfl ?_)
  refine RunL.nil ?_
  refine run_ret1 Try.func26 rfl (RV.tmp (v := .int .u8 _) rfl) ?_
  refine ⟨congrArg (Value.int .u8) (Eq.symm ?_), hst.pure⟩
  unfold kindS
  rw [if_neg g1, if_neg g2, if_neg g3, if_neg g4]

theorem R2ref_Kind (c : Int) (h0 : 0 ≤ c) (h1 : c ≤ 255) (w : World) : Ret Try.prog 27 #[.int .u8 c] w (fun v w' => v = .int .u8 (kindS c) ∧ St w NoM [] [] w') := by
  refine Ret.enter (args := [.int .u8 c]) Try.func27 rfl rfl rfl ?_
  have hst := St.init w
  have hnl : namesL.length = 30 := by decide +kernel
  refine run_seq ?_
  refine run_region ?_
  refine RunL.cons (Op1.assign (v := .int .u8 _) rfl ?_)
  refine RunL.nil ?_
  refine run_seq ?_
  refine run_seq ?_
  refine run_region ?_
  refine RunL.cons (Op1.move (v := .int .u8 _) rfl ?_)
  refine RunL.cons (Op1.eql rfl rfl ?_)
  refine RunL.nil ?_
  refine run_cond_dec rfl (fun g1 => ?_) (fun g1 => ?_)
  · skip
    refine run_seq ?_
    refine run_region ?_
    refine RunL.cons (Op1.assign (v := .int .u8 _) rfl ?_)
    refine RunL.nil ?_
    refine run_ret1 Try.func27 rfl (RV.tmp (v := .int .u8 _) rfl) ?_
    refine ⟨congrArg (Value.int .u8) (Eq.symm ?_), hst.pure⟩
    unfold kindS
    rw [if_pos g1]
  refine run_skip ?_
  refine run_seq ?_
  refine run_seq ?_
  refine run_region ?_
  refine RunL.cons (Op1.move (v := .int .u8 _) rfl ?_)
  refine RunL.cons (Op1.eql rfl rfl ?_)
  refine RunL.nil ?_
  refine run_cond_dec rfl (fun g2 => ?_) (fun g2 => ?_)
  · skip
    refine run_seq ?_
    refine run_region ?_
    refine RunL.cons (Op1.assign (v := .int .u8 _) rfl ?_)
    refine RunL.nil ?_
    refine run_ret1 Try.func27 rfl (RV.tmp (v := .int .u8 _) rfl) ?_
    refine ⟨congrArg (Value.int .u8) (Eq.symm ?_), hst.pure⟩
    unfold kindS
    rw [if_neg g1, if_pos g2]
  refine run_skip ?_
  refine run_seq ?_
  refine run_seq ?_
  refine run_region ?_
  refine RunL.cons (Op1.move (v := .int .u8 _) rfl ?_)
  refine RunL.cons (Op1.eql rfl rfl ?_)
  refine RunL.nil ?_
  refine run_cond_dec rfl (fun g3 => ?_) (fun g3 => ?_)
  · skip
    refine run_seq ?_
    refine run_region ?_
    refine RunL.cons (Op1.assign (v := .int .u8 _) rfl ?_)
    refine RunL.nil ?_
    refine run_ret1 Try.func27 rfl (RV.tmp (v := .int .u8 _) rfl) ?_
    refine ⟨congrArg (Value.int .u8) (Eq.symm ?_), hst.pure⟩
    unfold kindS
    rw [if_neg g1, if_neg g2, if_pos g3]
  refine run_skip ?_
  refine run_seq ?_
  refine run_region ?_
  refine RunL.cons (Op1.call0  ent12 rfl  ((R2ref_Names _).mono fun v w hp => ?_))
  obtain ⟨aoN, cpN, rfl, hp⟩ := hp
  replace hst := hst.call0 hp
  clear hp
  refine RunL.cons (Op1.assign (v := .slice _ _ _) rfl ?_)
  refine RunL.nil ?_
  refine run_seq ?_
  refine run_seq ?_
  refine run_region ?_
  refine RunL.cons (Op1.assign (v := .int .i64 _) rfl ?_)
  refine RunL.nil ?_
  refine run_block ?_
  refine run_loop ?_
  refine Run.indW [(0, .int .u8 _), (3, .slice _ _ _)] ⟨rfl, rfl, trivial⟩ (fun (i : Nat) => [(4, .int .i64 (i : Int))]) (fun (i : Nat) => []) (fun (i : Nat) => i ≤ namesL.length ∧ (namesL.drop i).find? (fun x => decide (x.letter = c)) = namesL.find? (fun x => decide (x.letter = c))) (fun (i : Nat) => namesL.length - i) (0) hst ⟨Nat.zero_le _, rfl⟩ ⟨rfl, trivial⟩ ?_
  intro i f w hst hJ ih4
  refine run_seq ?_
  refine run_seq ?_
  refine run_region ?_
  refine RunL.cons (Op1.move (v := .int .i64 _) rfl ?_)
  refine RunL.cons (Op1.move (v := .slice _ _ _) rfl ?_)
  refine RunL.cons (Op1.lenSl (rest := []) ty22 rfl ?_)
  refine RunL.cons (Op1.lss rfl rfl ?_)
  refine RunL.nil ?_
  refine run_cond_dec rfl (fun g5 => ?_) (fun g5 => ?_)
  · skip
    refine run_skip ?_
    refine run_seq ?_
    refine run_block ?_
    refine run_seq ?_
    refine run_region ?_
    refine RunL.cons (Op1.move (v := .slice _ _ _) rfl ?_)
    refine RunL.cons (Op1.move (v := .int .i64 _) rfl ?_)
    obtain ⟨bs6, rfl⟩ := Res.sl_some (hst.hL _ (.head _)) (by omega)
    refine RunL.cons (Op1.indexSl ty22 ty26 rfl rfl (by omega) (by omega) ?_)
    refine RunL.cons (Op1.fieldAddr fld26_0 rfl ?_)
    refine RunL.cons (Op1.load1 (v := .int .u8 _) ty5 rfl rfl (Res.sl_cell (hst.hL _ (.head _)) (flat_cell (g := nameC) (d := zeroN) nameC_len rfl (by omega))) ?_)
    refine RunL.cons (Op1.move (v := .int .u8 _) rfl ?_)
    refine RunL.cons (Op1.eql rfl rfl ?_)
    refine RunL.nil ?_
    refine run_cond_dec rfl (fun g7 => ?_) (fun g7 => ?_)
    · skip
      refine run_seq ?_
      refine run_region ?_
      refine RunL.cons (Op1.assign (v := .int .u8 _) rfl ?_)
      refine RunL.nil ?_
      refine run_ret1 Try.func27 rfl (RV.tmp (v := .int .u8 _) rfl) ?_
      refine ⟨congrArg (Value.int .u8) (Eq.symm ?_), hst.pure⟩
      unfold kindS
      rw [if_neg g1, if_neg g2, if_neg g3]
      rw [if_pos ((names_any h0 h1).2 (by rw [find_hit (d := zeroN) hJ.2 (by omega) (decide_eq_true g7)]; rfl))]
    refine run_skip ?_
    refine run_inBlock ?_
    refine run_region ?_
    refine RunL.cons (Op1.move (v := .int .i64 _) rfl ?_)
    refine RunL.cons (Op1.addN rfl rfl rfl (wrap_i64 (by omega) (by omega)) ?_)
    refine RunL.cons (Op1.assign (v := .int .i64 _) rfl ?_)
    refine RunL.nil ?_
    refine run_inLoop ?_
    exact ih4 (i + 1) _ w (by omega) hst (⟨by omega, find_miss (d := zeroN) hJ.2 (by omega) (decide_eq_false g7)⟩) ⟨rfl, rfl, trivial⟩ ⟨(congrArg (Value.int .i64) (by omega)), trivial⟩
  refine run_exit (id := 0) rfl ?_
  refine run_seq ?_
  refine run_region ?_
  refine RunL.cons (Op1.assign (v := .int .u8 _) rfl ?_)
  refine RunL.nil ?_
  refine run_ret1 Try.func27 rfl (RV.tmp (v := .int .u8 _) rfl) ?_
  refine ⟨congrArg (Value.int .u8) (Eq.symm ?_), hst.pure⟩
  unfold kindS
  rw [if_neg g1, if_neg g2, if_neg g3]
  rw [if_neg (fun h => absurd ((names_any h0 h1).1 h) (by rw [find_end hJ.2 (by omega)]; simp))]

theorem R2gr_fixed (fm : FormL) (hf : FOk fm) (i : Int) (h0 : 0 ≤ i) (h1 : i ≤ 9223372036854775807) (w : World) : Ret Try.prog 41 #[.agg #[.int .u16 fm.op, str fm.name, .bool fm.ty, .bool fm.res, str fm.fixed, str fm.rest, .int .i64 fm.most, .int .u8 fm.part], .int .i64 i] w (fun v w' => v = .int .u8 (fixS fm i) ∧ St w NoM [] [] w') := by
  refine Ret.enter (args := [.agg #[.int .u16 fm.op, str fm.name, .bool fm.ty, .bool fm.res, str fm.fixed, str fm.rest, .int .i64 fm.most, .int .u8 fm.part], .int .i64 i]) Try.func41 rfl rfl rfl ?_
  have hst := St.init w
  obtain ⟨hop, hmost, hfx, hrs, _, _, hf0, hr0⟩ := hf
  refine run_seq ?_
  refine run_region ?_
  refine RunL.cons (Op1.box (v := .agg #[.int .u16 _, str _, .bool _, .bool _, str _, str _, .int .i64 _, .int .u8 _]) hst rfl rfl fun w b2 hst => ?_)
  refine RunL.cons (Op1.assign (v := .int .u8 _) rfl ?_)
  refine RunL.nil ?_
  refine run_seq ?_
  refine run_seq ?_
  refine run_region ?_
  refine RunL.cons (Op1.move (v := .int .i64 _) rfl ?_)
  refine RunL.cons (Op1.lss rfl rfl ?_)
  refine RunL.cons (Op1.move (v := .bool _) rfl ?_)
  refine RunL.splitD (d := 7) rfl (fun g1 => ?_) (fun g1 => ?_)
  · skip
    refine RunL.omit (t := 7) rfl (congrArg Value.bool (decide_eq_true g1)) rfl ?_
    refine RunL.omit (t := 7) rfl (congrArg Value.bool (decide_eq_true g1)) rfl ?_
    refine RunL.omit (t := 7) rfl (congrArg Value.bool (decide_eq_true g1)) rfl ?_
    refine RunL.omit (t := 7) rfl (congrArg Value.bool (decide_eq_true g1)) rfl ?_
    refine RunL.omit (t := 7) rfl (congrArg Value.bool (decide_eq_true g1)) rfl ?_
    refine RunL.omit (t := 7) rfl (congrArg Value.bool (decide_eq_true g1)) rfl ?_
    refine RunL.cons (Op1.pickT (u := .bool _) (congrArg Value.bool (decide_eq_true g1)) rfl ?_)
    refine RunL.nil ?_
    refine run_cond_true (congrArg Value.bool (rfl : true = _)) ?_
    refine run_seq ?_
    refine run_region ?_
    refine RunL.cons (Op1.assign (v := .int .u8 _) rfl ?_)
    refine RunL.nil ?_
    refine run_ret1 Try.func41 rfl (RV.tmp (v := .int .u8 _) rfl) ?_
    refine ⟨congrArg (Value.int .u8) (Eq.symm ?_), hst.pure⟩
    unfold fixS
    first | exact if_pos (by omega) | exact if_neg (by omega)
  refine RunL.take (t := 7) rfl (congrArg Value.bool (decide_eq_false g1)) (Op1.move (v := .int .i64 _) rfl ?_)
  refine RunL.take (t := 7) rfl (congrArg Value.bool (decide_eq_false g1)) (Op1.fieldAddr fld68_0 rfl ?_)
  refine RunL.take (t := 7) rfl (congrArg Value.bool (decide_eq_false g1)) (Op1.fieldAddr fld38_4 rfl ?_)
  refine RunL.take (t := 7) rfl (congrArg Value.bool (decide_eq_false g1)) (Op1.load1 (v := str _) ty9 rfl rfl (hst.cellL (.head _) rfl) ?_)
  refine RunL.take (t := 7) rfl (congrArg Value.bool (decide_eq_false g1)) (Op1.lenS (rest := []) ty9 rfl ?_)
  refine RunL.take (t := 7) rfl (congrArg Value.bool (decide_eq_false g1)) (Op1.geq rfl rfl ?_)
  refine RunL.cons (Op1.pickF (u := .bool _) (congrArg Value.bool (decide_eq_false g1)) rfl ?_)
  refine RunL.nil ?_
  refine run_cond_dec rfl (fun g2 => ?_) (fun g2 => ?_)
  · skip
    refine run_seq ?_
    refine run_region ?_
    refine RunL.cons (Op1.assign (v := .int .u8 _) rfl ?_)
    refine RunL.nil ?_
    refine run_ret1 Try.func41 rfl (RV.tmp (v := .int .u8 _) rfl) ?_
    refine ⟨congrArg (Value.int .u8) (Eq.symm ?_), hst.pure⟩
    unfold fixS
    first | exact if_pos (by omega) | exact if_neg (by omega)
  refine run_skip ?_
  refine run_seq ?_
  refine run_region ?_
  refine RunL.cons (Op1.fieldAddr fld68_0 rfl ?_)
  refine RunL.cons (Op1.fieldAddr fld38_4 rfl ?_)
  refine RunL.cons (Op1.load1 (v := str _) ty9 rfl rfl (hst.cellL (.head _) rfl) ?_)
  refine RunL.cons (Op1.move (v := .int .i64 _) rfl ?_)
  refine RunL.cons (Op1.indexS ty9 rfl rfl (by omega) (by omega) ?_)
  refine RunL.cons (Op1.assign (v := .int .u8 _) rfl ?_)
  refine RunL.nil ?_
  refine run_ret1 Try.func41 rfl (RV.tmp (v := .int .u8 _) rfl) ?_
  refine ⟨congrArg (Value.int .u8) (Eq.symm ?_), hst.pure⟩
  unfold fixS
  first | exact if_pos (by omega) | exact if_neg (by omega)

theorem R2gr_rest (fm : FormL) (hf : FOk fm) (i : Int) (h0 : 0 ≤ i) (h1 : i ≤ 9223372036854775807) (w : World) : Ret Try.prog 42 #[.agg #[.int .u16 fm.op, str fm.name, .bool fm.ty, .bool fm.res, str fm.fixed, str fm.rest, .int .i64 fm.most, .int .u8 fm.part], .int .i64 i] w (fun v w' => v = .int .u8 (restS fm i) ∧ St w NoM [] [] w') := by
  refine Ret.enter (args := [.agg #[.int .u16 fm.op, str fm.name, .bool fm.ty, .bool fm.res, str fm.fixed, str fm.rest, .int .i64 fm.most, .int .u8 fm.part], .int .i64 i]) Try.func42 rfl rfl rfl ?_
  have hst := St.init w
  obtain ⟨hop, hmost, hfx, hrs, _, _, hf0, hr0⟩ := hf
  refine run_seq ?_
  refine run_region ?_
  refine RunL.cons (Op1.box (v := .agg #[.int .u16 _, str _, .bool _, .bool _, str _, str _, .int .i64 _, .int .u8 _]) hst rfl rfl fun w b2 hst => ?_)
  refine RunL.cons (Op1.assign (v := .int .u8 _) rfl ?_)
  refine RunL.nil ?_
  refine run_seq ?_
  refine run_region ?_
  refine RunL.cons (Op1.move (v := .int .i64 _) rfl ?_)
  refine RunL.cons (Op1.fieldAddr fld68_0 rfl ?_)
  refine RunL.cons (Op1.fieldAddr fld38_4 rfl ?_)
  refine RunL.cons (Op1.load1 (v := str _) ty9 rfl rfl (hst.cellL (.head _) rfl) ?_)
  refine RunL.cons (Op1.lenS (rest := []) ty9 rfl ?_)
  refine RunL.cons (Op1.subN rfl rfl rfl (wrap_i64 (by omega) (by omega)) ?_)
  refine RunL.cons (Op1.assign (v := .int .i64 _) rfl ?_)
  refine RunL.nil ?_
  refine run_seq ?_
  refine run_seq ?_
  refine run_region ?_
  refine RunL.cons (Op1.move (v := .int .i64 _) rfl ?_)
  refine RunL.cons (Op1.lss rfl rfl ?_)
  refine RunL.cons (Op1.move (v := .bool _) rfl ?_)
  refine RunL.splitD (d := 13) rfl (fun g1 => ?_) (fun g1 => ?_)
  · skip
    refine RunL.omit (t := 13) rfl (congrArg Value.bool (decide_eq_true g1)) rfl ?_
    refine RunL.omit (t := 13) rfl (congrArg Value.bool (decide_eq_true g1)) rfl ?_
    refine RunL.omit (t := 13) rfl (congrArg Value.bool (decide_eq_true g1)) rfl ?_
    refine RunL.omit (t := 13) rfl (congrArg Value.bool (decide_eq_true g1)) rfl ?_
    refine RunL.cons (Op1.pickT (u := .bool _) (congrArg Value.bool (decide_eq_true g1)) rfl ?_)
    refine RunL.cons (Op1.move (v := .bool _) rfl ?_)
    refine RunL.omit (t := 19) rfl (congrArg Value.bool (rfl : true = _)) rfl ?_
    refine RunL.omit (t := 19) rfl (congrArg Value.bool (rfl : true = _)) rfl ?_
    refine RunL.omit (t := 19) rfl (congrArg Value.bool (rfl : true = _)) rfl ?_
    refine RunL.omit (t := 19) rfl (congrArg Value.bool (rfl : true = _)) rfl ?_
    refine RunL.omit (t := 19) rfl (congrArg Value.bool (rfl : true = _)) rfl ?_
    refine RunL.omitU (t := 24) rfl rfl ?_
    refine RunL.omitU (t := 24) rfl rfl ?_
    refine RunL.omitU (t := 24) rfl rfl ?_
    refine RunL.omitU (t := 24) rfl rfl ?_
    refine RunL.omitU (t := 24) rfl rfl ?_
    refine RunL.omitU (t := 24) rfl rfl ?_
    refine RunL.omitU (t := 24) rfl rfl ?_
    refine RunL.omitU (t := 24) rfl rfl ?_
    refine RunL.omitU (t := 24) rfl rfl ?_
    refine RunL.omitU (t := 24) rfl rfl ?_
    refine RunL.omit (t := 19) rfl (congrArg Value.bool (rfl : true = _)) rfl ?_
    refine RunL.cons (Op1.pickT (u := .bool _) (congrArg Value.bool (rfl : true = _)) rfl ?_)
    refine RunL.nil ?_
    refine run_cond_true (congrArg Value.bool (rfl : true = _)) ?_
    refine run_seq ?_
    refine run_region ?_
    refine RunL.cons (Op1.assign (v := .int .u8 _) rfl ?_)
    refine RunL.nil ?_
    refine run_ret1 Try.func42 rfl (RV.tmp (v := .int .u8 _) rfl) ?_
    refine ⟨congrArg (Value.int .u8) (Eq.symm ?_), hst.pure⟩
    unfold restS
    first | exact if_pos (by first | omega | (simp_all <;> omega)) | exact if_neg (by first | omega | (simp_all <;> omega))
  refine RunL.take (t := 13) rfl (congrArg Value.bool (decide_eq_false g1)) (Op1.fieldAddr fld68_0 rfl ?_)
  refine RunL.take (t := 13) rfl (congrArg Value.bool (decide_eq_false g1)) (Op1.fieldAddr fld38_5 rfl ?_)
  refine RunL.take (t := 13) rfl (congrArg Value.bool (decide_eq_false g1)) (Op1.load1 (v := str _) ty9 rfl rfl (hst.cellL (.head _) rfl) ?_)
  refine RunL.take (t := 13) rfl (congrArg Value.bool (decide_eq_false g1)) (Op1.eqlS rfl rfl ?_)
  refine RunL.cons (Op1.pickF (u := .bool _) (congrArg Value.bool (decide_eq_false g1)) rfl ?_)
  refine RunL.cons (Op1.move (v := .bool _) rfl ?_)
  refine RunL.splitD (d := 19) rfl (fun g2 => ?_) (fun g2 => ?_)
  · skip
    refine RunL.omit (t := 19) rfl (congrArg Value.bool (decide_eq_true g2)) rfl ?_
    refine RunL.omit (t := 19) rfl (congrArg Value.bool (decide_eq_true g2)) rfl ?_
    refine RunL.omit (t := 19) rfl (congrArg Value.bool (decide_eq_true g2)) rfl ?_
    refine RunL.omit (t := 19) rfl (congrArg Value.bool (decide_eq_true g2)) rfl ?_
    refine RunL.omit (t := 19) rfl (congrArg Value.bool (decide_eq_true g2)) rfl ?_
    refine RunL.omitU (t := 24) rfl rfl ?_
    refine RunL.omitU (t := 24) rfl rfl ?_
    refine RunL.omitU (t := 24) rfl rfl ?_
    refine RunL.omitU (t := 24) rfl rfl ?_
    refine RunL.omitU (t := 24) rfl rfl ?_
    refine RunL.omitU (t := 24) rfl rfl ?_
    refine RunL.omitU (t := 24) rfl rfl ?_
    refine RunL.omitU (t := 24) rfl rfl ?_
    refine RunL.omitU (t := 24) rfl rfl ?_
    refine RunL.omitU (t := 24) rfl rfl ?_
    refine RunL.omit (t := 19) rfl (congrArg Value.bool (decide_eq_true g2)) rfl ?_
    refine RunL.cons (Op1.pickT (u := .bool _) (congrArg Value.bool (decide_eq_true g2)) rfl ?_)
    refine RunL.nil ?_
    refine Run.forget [(1, .int .i64 _), (2, .pointer (some ⟨_, _, none⟩)), (36, .bool _)] ⟨rfl, rfl, rfl, trivial⟩ (fun f => ?_)
    refine run_cond_true (congrArg Value.bool (rfl : true = _)) ?_
    refine run_seq ?_
    refine run_region ?_
    refine RunL.cons (Op1.assign (v := .int .u8 _) rfl ?_)
    refine RunL.nil ?_
    refine run_ret1 Try.func42 rfl (RV.tmp (v := .int .u8 _) rfl) ?_
    refine ⟨congrArg (Value.int .u8) (Eq.symm ?_), hst.pure⟩
    unfold restS
    first | exact if_pos (by first | omega | (simp_all <;> omega)) | exact if_neg (by first | omega | (simp_all <;> omega))
  refine RunL.take (t := 19) rfl (congrArg Value.bool (decide_eq_false g2)) (Op1.fieldAddr fld68_0 rfl ?_)
  refine RunL.take (t := 19) rfl (congrArg Value.bool (decide_eq_false g2)) (Op1.fieldAddr fld38_6 rfl ?_)
  refine RunL.take (t := 19) rfl (congrArg Value.bool (decide_eq_false g2)) (Op1.load1 (v := .int .i64 _) ty3 rfl rfl (hst.cellL (.head _) rfl) ?_)
  refine RunL.take (t := 19) rfl (congrArg Value.bool (decide_eq_false g2)) (Op1.gtr rfl rfl ?_)
  refine RunL.take (t := 19) rfl (congrArg Value.bool (decide_eq_false g2)) (Op1.move (v := .bool _) rfl ?_)
  refine RunL.splitD (d := 24) rfl (fun g3 => ?_) (fun g3 => ?_)
  · skip
    refine RunL.take (t := 24) rfl (congrArg Value.bool (decide_eq_true g3)) (Op1.move (v := .int .i64 _) rfl ?_)
    refine RunL.take (t := 24) rfl (congrArg Value.bool (decide_eq_true g3)) (Op1.fieldAddr fld68_0 rfl ?_)
    refine RunL.take (t := 24) rfl (congrArg Value.bool (decide_eq_true g3)) (Op1.fieldAddr fld38_6 rfl ?_)
    refine RunL.take (t := 24) rfl (congrArg Value.bool (decide_eq_true g3)) (Op1.load1 (v := .int .i64 _) ty3 rfl rfl (hst.cellL (.head _) rfl) ?_)
    refine RunL.take (t := 24) rfl (congrArg Value.bool (decide_eq_true g3)) (Op1.fieldAddr fld68_0 rfl ?_)
    refine RunL.take (t := 24) rfl (congrArg Value.bool (decide_eq_true g3)) (Op1.fieldAddr fld38_5 rfl ?_)
    refine RunL.take (t := 24) rfl (congrArg Value.bool (decide_eq_true g3)) (Op1.load1 (v := str _) ty9 rfl rfl (hst.cellL (.head _) rfl) ?_)
    refine RunL.take (t := 24) rfl (congrArg Value.bool (decide_eq_true g3)) (Op1.lenS (rest := []) ty9 rfl ?_)
    first | refine RunL.take (t := 24) rfl (congrArg Value.bool (decide_eq_true g3)) (Op1.mulN rfl rfl rfl (wrap_i64 (by omega) (by omega)) ?_) | refine RunL.take (t := 24) rfl (congrArg Value.bool (decide_eq_true g3)) (Op1.mulB rfl rfl (by omega) (by omega) (by omega) (by omega) (fun hm4 hm5 => ?_))
    refine RunL.take (t := 24) rfl (congrArg Value.bool (decide_eq_true g3)) (Op1.geq rfl rfl ?_)
    refine RunL.take (t := 19) rfl (congrArg Value.bool (decide_eq_false g2)) (Op1.pickT (u := .bool _) (congrArg Value.bool (decide_eq_true g3)) rfl ?_)
    refine RunL.cons (Op1.pickF (u := .bool _) (congrArg Value.bool (decide_eq_false g2)) rfl ?_)
    refine RunL.nil ?_
    refine Run.forget [(1, .int .i64 _), (2, .pointer (some ⟨_, _, none⟩)), (36, .bool _)] ⟨rfl, rfl, rfl, trivial⟩ (fun f => ?_)
    refine run_cond_dec rfl (fun g6 => ?_) (fun g6 => ?_)
    · skip
      refine run_seq ?_
      refine run_region ?_
      refine RunL.cons (Op1.assign (v := .int .u8 _) rfl ?_)
      refine RunL.nil ?_
      refine run_ret1 Try.func42 rfl (RV.tmp (v := .int .u8 _) rfl) ?_
      refine ⟨congrArg (Value.int .u8) (Eq.symm ?_), hst.pure⟩
      unfold restS
      first | exact if_pos (by first | omega | (simp_all <;> omega)) | exact if_neg (by first | omega | (simp_all <;> omega))
    have hrp : 0 < fm.rest.length := List.length_pos_iff.2 g2
    have hmd := Int.emod_lt_of_pos (i - (fm.fixed.length : Int)) (show (0 : Int) < fm.rest.length by omega)
    have hmn := Int.emod_nonneg (i - (fm.fixed.length : Int)) (show (fm.rest.length : Int) ≠ 0 by omega)
    refine run_skip ?_
    refine run_seq ?_
    refine RunD.start [] hst (bs := [0, 1, 3, 0, 0, 16, 48, 112, 248, 511, 1023]) (ds := [some 37, some 38, some 39, some 40, some 41, some 42, some 43, some 44, some 45, some 46, some 4]) ⟨by kernel_rfl, by kernel_rfl, by kernel_rfl⟩ (fun tab7 => ?_)
    refine RunD.op (det _) tab7 1 (fun f' L' w' hc => Op1.fieldAddr fld68_0 (hc.old (v := .pointer (some ⟨_, _, none⟩)) rfl rfl rfl) ⟨[], ⟨rfl, rfl⟩, hc.st⟩) ?_
    refine RunD.op (det _) tab7 2 (fun f' L' w' hc => Op1.fieldAddr fld38_5 (hc.det (j := 0) rfl rfl rfl rfl) ⟨[], ⟨rfl, rfl⟩, hc.st⟩) ?_
    refine RunD.op (det _) tab7 3 (fun f' L' w' hc => Op1.load1 (v := str _) ty9 rfl (hc.det (j := 1) rfl rfl rfl rfl) (hc.st.cellL (List.mem_append_right _ (.head _)) rfl) ⟨[], ⟨rfl, rfl⟩, hc.st⟩) ?_
    refine RunD.op (det _) tab7 4 (fun f' L' w' hc => Op1.move (v := .int .i64 _) (hc.old (v := .int .i64 _) rfl rfl rfl) ⟨[], ⟨rfl, rfl⟩, hc.st⟩) ?_
    refine RunD.op (det _) tab7 5 (fun f' L' w' hc => Op1.fieldAddr fld68_0 (hc.old (v := .pointer (some ⟨_, _, none⟩)) rfl rfl rfl) ⟨[], ⟨rfl, rfl⟩, hc.st⟩) ?_
    refine RunD.op (det _) tab7 6 (fun f' L' w' hc => Op1.fieldAddr fld38_5 (hc.det (j := 4) rfl rfl rfl rfl) ⟨[], ⟨rfl, rfl⟩, hc.st⟩) ?_
    refine RunD.op (det _) tab7 7 (fun f' L' w' hc => Op1.load1 (v := str _) ty9 rfl (hc.det (j := 5) rfl rfl rfl rfl) (hc.st.cellL (List.mem_append_right _ (.head _)) rfl) ⟨[], ⟨rfl, rfl⟩, hc.st⟩) ?_
    refine RunD.op (det _) tab7 8 (fun f' L' w' hc => Op1.lenS (rest := []) ty9 (hc.det (j := 6) rfl rfl rfl rfl) ⟨[], ⟨rfl, rfl⟩, hc.st⟩) ?_
    first | refine RunD.op (det _) tab7 9 (fun f' L' w' hc => Op1.remN (hc.det (j := 3) rfl rfl rfl rfl) (hc.det (j := 7) rfl rfl rfl rfl) (by omega) (by omega) rfl ⟨[], ⟨rfl, rfl⟩, hc.st⟩) ?_ | refine RunD.op (det _) tab7 9 (fun f' L' w' hc => Op1.rem (hc.det (j := 3) rfl rfl rfl rfl) (hc.det (j := 7) rfl rfl rfl rfl) (by omega) ⟨[], ⟨rfl, rfl⟩, hc.st⟩) ?_
    refine RunD.fin followsMixed tab7 hst rfl (fun f8 w R11 hs9 hd10 hr12 hst => ?_)
    obtain ⟨h37_, r0⟩ := hd10 0 37 rfl rfl
    obtain ⟨h38_, r1⟩ := hd10 1 38 rfl rfl
    obtain ⟨h39_, r2⟩ := hd10 2 39 rfl rfl
    obtain ⟨h40_, r3⟩ := hd10 3 40 rfl rfl
    obtain ⟨h41_, r4⟩ := hd10 4 41 rfl rfl
    obtain ⟨h42_, r5⟩ := hd10 5 42 rfl rfl
    obtain ⟨h43_, r6⟩ := hd10 6 43 rfl rfl
    obtain ⟨h44_, r7⟩ := hd10 7 44 rfl rfl
    obtain ⟨h45_, r8⟩ := hd10 8 45 rfl rfl
    simp only [show List.range 9 = [0, 1, 2, 3, 4, 5, 6, 7, 8] from rfl, List.flatMap_cons, List.flatMap_nil, List.map_cons, List.map_nil, r0, r1, r2, r3, r4, r5, r6, r7, r8, List.nil_append, List.append_nil, List.cons_append] at hst
    refine RunL.slots (sl := [(39, str _), (45, .int .i64 _)]) ⟨h39_, h45_, trivial⟩ ?_
    clear hs9 hd10 hr12 tab7
    refine RunL.cons (Op1.indexS ty9 rfl rfl (by omega) (by omega) ?_)
    refine RunL.cons (Op1.assign (v := .int .u8 _) rfl ?_)
    refine RunL.nil ?_
    refine run_ret1 Try.func42 rfl (RV.tmp (v := .int .u8 _) rfl) ?_
    refine ⟨congrArg (Value.int .u8) (Eq.symm ?_), hst.pure⟩
    unfold restS
    first | exact if_pos (by first | omega | (simp_all <;> omega)) | exact if_neg (by first | omega | (simp_all <;> omega))
  refine RunL.omit (t := 24) rfl (congrArg Value.bool (decide_eq_false g3)) rfl ?_
  refine RunL.omit (t := 24) rfl (congrArg Value.bool (decide_eq_false g3)) rfl ?_
  refine RunL.omit (t := 24) rfl (congrArg Value.bool (decide_eq_false g3)) rfl ?_
  refine RunL.omit (t := 24) rfl (congrArg Value.bool (decide_eq_false g3)) rfl ?_
  refine RunL.omit (t := 24) rfl (congrArg Value.bool (decide_eq_false g3)) rfl ?_
  refine RunL.omit (t := 24) rfl (congrArg Value.bool (decide_eq_false g3)) rfl ?_
  refine RunL.omit (t := 24) rfl (congrArg Value.bool (decide_eq_false g3)) rfl ?_
  refine RunL.omit (t := 24) rfl (congrArg Value.bool (decide_eq_false g3)) rfl ?_
  refine RunL.omit (t := 24) rfl (congrArg Value.bool (decide_eq_false g3)) rfl ?_
  refine RunL.omit (t := 24) rfl (congrArg Value.bool (decide_eq_false g3)) rfl ?_
  refine RunL.take (t := 19) rfl (congrArg Value.bool (decide_eq_false g2)) (Op1.pickF (u := .bool _) (congrArg Value.bool (decide_eq_false g3)) rfl ?_)
  refine RunL.cons (Op1.pickF (u := .bool _) (congrArg Value.bool (decide_eq_false g2)) rfl ?_)
  refine RunL.nil ?_
  refine Run.forget [(1, .int .i64 _), (2, .pointer (some ⟨_, _, none⟩)), (36, .bool _)] ⟨rfl, rfl, rfl, trivial⟩ (fun f => ?_)
  have hrp : 0 < fm.rest.length := List.length_pos_iff.2 g2
  have hmd := Int.emod_lt_of_pos (i - (fm.fixed.length : Int)) (show (0 : Int) < fm.rest.length by omega)
  have hmn := Int.emod_nonneg (i - (fm.fixed.length : Int)) (show (fm.rest.length : Int) ≠ 0 by omega)
  refine run_cond_false (congrArg Value.bool (rfl : false = _)) ?_
  refine run_skip ?_
  refine run_seq ?_
  refine RunD.start [] hst (bs := [0, 1, 3, 0, 0, 16, 48, 112, 248, 511, 1023]) (ds := [some 37, some 38, some 39, some 40, some 41, some 42, some 43, some 44, some 45, some 46, some 4]) ⟨by kernel_rfl, by kernel_rfl, by kernel_rfl⟩ (fun tab13 => ?_)
  refine RunD.op (det _) tab13 1 (fun f' L' w' hc => Op1.fieldAddr fld68_0 (hc.old (v := .pointer (some ⟨_, _, none⟩)) rfl rfl rfl) ⟨[], ⟨rfl, rfl⟩, hc.st⟩) ?_
  refine RunD.op (det _) tab13 2 (fun f' L' w' hc => Op1.fieldAddr fld38_5 (hc.det (j := 0) rfl rfl rfl rfl) ⟨[], ⟨rfl, rfl⟩, hc.st⟩) ?_
  refine RunD.op (det _) tab13 3 (fun f' L' w' hc => Op1.load1 (v := str _) ty9 rfl (hc.det (j := 1) rfl rfl rfl rfl) (hc.st.cellL (List.mem_append_right _ (.head _)) rfl) ⟨[], ⟨rfl, rfl⟩, hc.st⟩) ?_
  refine RunD.op (det _) tab13 4 (fun f' L' w' hc => Op1.move (v := .int .i64 _) (hc.old (v := .int .i64 _) rfl rfl rfl) ⟨[], ⟨rfl, rfl⟩, hc.st⟩) ?_
  refine RunD.op (det _) tab13 5 (fun f' L' w' hc => Op1.fieldAddr fld68_0 (hc.old (v := .pointer (some ⟨_, _, none⟩)) rfl rfl rfl) ⟨[], ⟨rfl, rfl⟩, hc.st⟩) ?_
  refine RunD.op (det _) tab13 6 (fun f' L' w' hc => Op1.fieldAddr fld38_5 (hc.det (j := 4) rfl rfl rfl rfl) ⟨[], ⟨rfl, rfl⟩, hc.st⟩) ?_
  refine RunD.op (det _) tab13 7 (fun f' L' w' hc => Op1.load1 (v := str _) ty9 rfl (hc.det (j := 5) rfl rfl rfl rfl) (hc.st.cellL (List.mem_append_right _ (.head _)) rfl) ⟨[], ⟨rfl, rfl⟩, hc.st⟩) ?_
  refine RunD.op (det _) tab13 8 (fun f' L' w' hc => Op1.lenS (rest := []) ty9 (hc.det (j := 6) rfl rfl rfl rfl) ⟨[], ⟨rfl, rfl⟩, hc.st⟩) ?_
  first | refine RunD.op (det _) tab13 9 (fun f' L' w' hc => Op1.remN (hc.det (j := 3) rfl rfl rfl rfl) (hc.det (j := 7) rfl rfl rfl rfl) (by omega) (by omega) rfl ⟨[], ⟨rfl, rfl⟩, hc.st⟩) ?_ | refine RunD.op (det _) tab13 9 (fun f' L' w' hc => Op1.rem (hc.det (j := 3) rfl rfl rfl rfl) (hc.det (j := 7) rfl rfl rfl rfl) (by omega) ⟨[], ⟨rfl, rfl⟩, hc.st⟩) ?_
  refine RunD.fin followsMixed tab13 hst rfl (fun f14 w R17 hs15 hd16 hr18 hst => ?_)
  obtain ⟨h37_, r0⟩ := hd16 0 37 rfl rfl
  obtain ⟨h38_, r1⟩ := hd16 1 38 rfl rfl
  obtain ⟨h39_, r2⟩ := hd16 2 39 rfl rfl
  obtain ⟨h40_, r3⟩ := hd16 3 40 rfl rfl
  obtain ⟨h41_, r4⟩ := hd16 4 41 rfl rfl
  obtain ⟨h42_, r5⟩ := hd16 5 42 rfl rfl
  obtain ⟨h43_, r6⟩ := hd16 6 43 rfl rfl
  obtain ⟨h44_, r7⟩ := hd16 7 44 rfl rfl
  obtain ⟨h45_, r8⟩ := hd16 8 45 rfl rfl
  simp only [show List.range 9 = [0, 1, 2, 3, 4, 5, 6, 7, 8] from rfl, List.flatMap_cons, List.flatMap_nil, List.map_cons, List.map_nil, r0, r1, r2, r3, r4, r5, r6, r7, r8, List.nil_append, List.append_nil, List.cons_append] at hst
  refine RunL.slots (sl := [(39, str _), (45, .int .i64 _)]) ⟨h39_, h45_, trivial⟩ ?_
  clear hs15 hd16 hr18 tab13
  refine RunL.cons (Op1.indexS ty9 rfl rfl (by omega) (by omega) ?_)
  refine RunL.cons (Op1.assign (v := .int .u8 _) rfl ?_)
  refine RunL.nil ?_
  refine run_ret1 Try.func42 rfl (RV.tmp (v := .int .u8 _) rfl) ?_
  refine ⟨congrArg (Value.int .u8) (Eq.symm ?_), hst.pure⟩
  unfold restS
  first | exact if_pos (by first | omega | (simp_all <;> omega)) | exact if_neg (by first | omega | (simp_all <;> omega))

theorem R2gr_letter (fm : FormL) (hf : FOk fm) (i : Int) (h1 : i ≤ 9223372036854775807) (w : World) : Ret Try.prog 37 #[.agg #[.int .u16 fm.op, str fm.name, .bool fm.ty, .bool fm.res, str fm.fixed, str fm.rest, .int .i64 fm.most, .int .u8 fm.part], .int .i64 i] w (fun v w' => v = .int .u8 (letterS fm i) ∧ St w NoM [] [] w') := by
  refine Ret.enter (args := [.agg #[.int .u16 fm.op, str fm.name, .bool fm.ty, .bool fm.res, str fm.fixed, str fm.rest, .int .i64 fm.most, .int .u8 fm.part], .int .i64 i]) Try.func37 rfl rfl rfl ?_
  have hst := St.init w
  refine run_seq ?_
  refine run_region ?_
  refine RunL.cons (Op1.box (v := .agg #[.int .u16 _, str _, .bool _, .bool _, str _, str _, .int .i64 _, .int .u8 _]) hst rfl rfl fun w b2 hst => ?_)
  refine RunL.cons (Op1.assign (v := .int .u8 _) rfl ?_)
  refine RunL.nil ?_
  refine run_seq ?_
  refine run_seq ?_
  refine run_region ?_
  refine RunL.cons (Op1.move (v := .int .i64 _) rfl ?_)
  refine RunL.cons (Op1.lss rfl rfl ?_)
  refine RunL.nil ?_
  refine run_cond_dec rfl (fun g1 => ?_) (fun g1 => ?_)
  · skip
    refine run_seq ?_
    refine run_region ?_
    refine RunL.cons (Op1.assign (v := .int .u8 _) rfl ?_)
    refine RunL.nil ?_
    refine run_ret1 Try.func37 rfl (RV.tmp (v := .int .u8 _) rfl) ?_
    refine ⟨congrArg (Value.int .u8) (Eq.symm ?_), hst.pure⟩
    unfold letterS
    exact if_pos (by omega)
  refine run_skip ?_
  refine run_seq ?_
  refine run_seq ?_
  refine run_region ?_
  refine RunL.cons (Op1.loadA (vs := [.int .u16 _, str _, .bool _, .bool _, str _, str _, .int .i64 _, .int .u8 _]) ty68 rfl rfl rfl (cells_of_obj (n := 8) (hst.objL (.head _)) _ rfl) ?_)
  refine RunL.cons (Op1.makeFunc ?_)
  refine RunL.cons (Op1.loadA (vs := [.int .u16 _, str _, .bool _, .bool _, str _, str _, .int .i64 _, .int .u8 _]) ty68 rfl rfl rfl (cells_of_obj (n := 8) (hst.objL (.head _)) _ rfl) ?_)
  refine RunL.cons (Op1.makeFunc ?_)
  refine RunL.cons (Op1.buildSl (z0 := [.nilFunc, .nilFunc]) hst ty70 ty69 rfl rfl (by kernel_rfl) (.cons rfl (v := .func _ _ _) rfl rfl rfl rfl (by repeat (first | exact Put.nil | apply Put.put | apply Put.skip)) (.cons rfl (v := .func _ _ _) rfl rfl rfl rfl (by repeat (first | exact Put.nil | apply Put.put | apply Put.skip)) .nil)) fun w b14 hst => ?_)
  refine RunL.cons (Op1.lenSl (rest := []) ty70 rfl ?_)
  refine RunL.cons (Op1.move (v := .int .i64 _) rfl ?_)
  refine RunL.nil ?_
  refine run_block ?_
  refine run_loop ?_
  refine run_seq ?_
  refine run_region ?_
  refine RunL.cons (Op1.lss rfl rfl ?_)
  refine RunL.nil ?_
  refine run_seq ?_
  refine run_cond_true (congrArg Value.bool (decide_eq_true (by decide))) ?_
  refine run_skip ?_
  refine run_seq ?_
  refine run_block ?_
  refine run_seq ?_
  refine run_region ?_
  refine RunL.cons (Op1.indexSl ty70 ty69 rfl rfl (by omega) (by omega) ?_)
  refine RunL.cons (Op1.load1 (v := .func _ _ _) ty69 rfl rfl (hst.cellL (.head _) rfl) ?_)
  refine RunL.cons (Op1.assign (v := .func _ _ _) rfl ?_)
  refine RunL.nil ?_
  refine run_seq ?_
  refine run_region ?_
  refine RunL.cons (Op1.move (v := .func _ _ _) rfl ?_)
  refine RunL.cons (Op1.move (v := .int .i64 _) rfl ?_)
  refine RunL.cons (Op1.callV1 (v1 := .int .i64 _) rfl rfl (CallV.funcF ent41 ((R2gr_fixed fm hf i (by omega) h1 _).mono fun v w hp => ?_)))
  obtain ⟨rfl, hp⟩ := hp
  replace hst := hst.keepc hp
  clear hp
  refine RunL.cons (Op1.assign (v := .int .u8 _) rfl ?_)
  refine RunL.nil ?_
  refine Run.forget [(1, .int .i64 _), (7, .int .u8 _), (14, .slice _ _ _), (15, .int .i64 _), (16, .int .i64 _)] ⟨rfl, rfl, rfl, rfl, rfl, trivial⟩ (fun f => ?_)
  refine run_seq ?_
  refine run_region ?_
  refine RunL.cons (Op1.move (v := .int .u8 _) rfl ?_)
  refine RunL.cons (Op1.neq rfl rfl ?_)
  refine RunL.nil ?_
  refine run_cond_dec rfl (fun g2 => ?_) (fun g2 => ?_)
  · skip
    refine run_seq ?_
    refine run_region ?_
    refine RunL.cons (Op1.move (v := .int .u8 _) rfl ?_)
    refine RunL.cons (Op1.assign (v := .int .u8 _) rfl ?_)
    refine RunL.nil ?_
    refine run_ret1 Try.func37 rfl (RV.tmp (v := .int .u8 _) rfl) ?_
    exact ⟨congrArg (Value.int .u8) (letter_fix hf (by omega) g2).symm, hst.pure⟩
  refine run_skip ?_
  refine run_inBlock ?_
  refine run_region ?_
  refine RunL.cons (Op1.addN rfl rfl rfl (wrap_i64 (by omega) (by omega)) ?_)
  refine RunL.cons (Op1.move (v := .int .i64 _) rfl ?_)
  refine RunL.nil ?_
  refine run_inLoop ?_
  refine run_seq ?_
  refine run_region ?_
  refine RunL.cons (Op1.lss rfl rfl ?_)
  refine RunL.nil ?_
  refine run_seq ?_
  refine run_cond_true (congrArg Value.bool (decide_eq_true (by decide))) ?_
  refine run_skip ?_
  refine run_seq ?_
  refine run_block ?_
  refine run_seq ?_
  refine run_region ?_
  refine RunL.cons (Op1.indexSl ty70 ty69 rfl rfl (by omega) (by omega) ?_)
  refine RunL.cons (Op1.load1 (v := .func _ _ _) ty69 rfl rfl (hst.cellL (.head _) rfl) ?_)
  refine RunL.cons (Op1.assign (v := .func _ _ _) rfl ?_)
  refine RunL.nil ?_
  refine run_seq ?_
  refine run_region ?_
  refine RunL.cons (Op1.move (v := .func _ _ _) rfl ?_)
  refine RunL.cons (Op1.move (v := .int .i64 _) rfl ?_)
  refine RunL.cons (Op1.callV1 (v1 := .int .i64 _) rfl rfl (CallV.funcF ent42 ((R2gr_rest fm hf i (by omega) h1 _).mono fun v w hp => ?_)))
  obtain ⟨rfl, hp⟩ := hp
  replace hst := hst.keepc hp
  clear hp
  refine RunL.cons (Op1.assign (v := .int .u8 _) rfl ?_)
  refine RunL.nil ?_
  refine run_seq ?_
  refine run_region ?_
  refine RunL.cons (Op1.move (v := .int .u8 _) rfl ?_)
  refine RunL.cons (Op1.neq rfl rfl ?_)
  refine RunL.nil ?_
  refine run_cond_dec rfl (fun g3 => ?_) (fun g3 => ?_)
  · skip
    refine run_seq ?_
    refine run_region ?_
    refine RunL.cons (Op1.move (v := .int .u8 _) rfl ?_)
    refine RunL.cons (Op1.assign (v := .int .u8 _) rfl ?_)
    refine RunL.nil ?_
    refine run_ret1 Try.func37 rfl (RV.tmp (v := .int .u8 _) rfl) ?_
    rw [letter_rest hf (by omega) (Classical.not_not.1 g2)]
    exact ⟨rfl, hst.pure⟩
  refine run_skip ?_
  refine run_inBlock ?_
  refine run_region ?_
  refine RunL.cons (Op1.addN rfl rfl rfl (wrap_i64 (by omega) (by omega)) ?_)
  refine RunL.cons (Op1.move (v := .int .i64 _) rfl ?_)
  refine RunL.nil ?_
  refine run_inLoop ?_
  refine run_seq ?_
  refine run_region ?_
  refine RunL.cons (Op1.lss rfl rfl ?_)
  refine RunL.nil ?_
  refine run_seq ?_
  refine run_cond_false (congrArg Value.bool (decide_eq_false (by decide))) ?_
  refine run_exit (id := 0) rfl ?_
  refine run_seq ?_
  refine run_region ?_
  refine RunL.cons (Op1.assign (v := .int .u8 _) rfl ?_)
  refine RunL.nil ?_
  refine run_ret1 Try.func37 rfl (RV.tmp (v := .int .u8 _) rfl) ?_
  rw [letter_rest hf (by omega) (Classical.not_not.1 g2)]
  exact ⟨congrArg (Value.int .u8) (Classical.not_not.1 g3).symm, hst.pure⟩

theorem R2gr_Letter (op : Int) (h0 : 0 ≤ op) (i : Int) (h1 : i ≤ 9223372036854775807) (w : World) : Ret Try.prog 24 #[.int .u16 op, .int .i64 i] w (fun v w' => v = .int .u8 (letterS (refD op) i) ∧ St w NoM [] [] w') := by
  refine Ret.enter (args := [.int .u16 op, .int .i64 i]) Try.func24 rfl rfl rfl ?_
  have hst := St.init w
  refine run_seq ?_
  refine run_region ?_
  refine RunL.cons (Op1.assign (v := .int .u8 _) rfl ?_)
  refine RunL.nil ?_
  refine run_seq ?_
  refine run_region ?_
  refine RunL.cons (Op1.move (v := .int .u16 _) rfl ?_)
  refine RunL.cons (Op1.call1 (v1 := .int .u16 _) ent19 rfl rfl ((R2gr_Of _ (by omega) _).mono fun v w hp => ?_))
  obtain ⟨rfl, hp⟩ := hp
  replace hst := hst.keepc hp
  clear hp
  refine RunL.cons (Op1.move (v := .tuple #[.agg #[.int .u16 _, str _, .bool _, .bool _, str _, str _, .int .i64 _, .int .u8 _], .bool _]) rfl ?_)
  refine RunL.cons (Op1.extract (v := .agg #[.int .u16 _, str _, .bool _, .bool _, str _, str _, .int .i64 _, .int .u8 _]) rfl rfl ?_)
  refine RunL.cons (Op1.extract (v := .bool _) rfl rfl ?_)
  refine RunL.cons (Op1.alloc hst ty38 fun w b5 hst => ?_)
  refine RunL.cons (Op1.store (v := .agg #[.int .u16 _, str _, .bool _, .bool _, str _, str _, .int .i64 _, .int .u8 _]) hst ty38 rfl rfl rfl rfl rfl (.here) (by repeat (first | exact Put.nil | apply Put.put | apply Put.skip)) fun w hst => ?_)
  refine RunL.cons (Op1.assign (v := .bool _) rfl ?_)
  refine RunL.nil ?_
  refine run_seq ?_
  refine run_region ?_
  refine RunL.cons (Op1.loadA (vs := [.int .u16 _, str _, .bool _, .bool _, str _, str _, .int .i64 _, .int .u8 _]) ty38 rfl rfl rfl (cells_of_obj (n := 8) (hst.objL (.head _)) _ rfl) ?_)
  refine RunL.cons (Op1.buildStruct ty68 stf68 (.cons rfl (v := .agg #[.int .u16 _, str _, .bool _, .bool _, str _, str _, .int .i64 _, .int .u8 _]) rfl rfl rfl rfl (by repeat (first | exact Put.nil | apply Put.put | apply Put.skip)) .nil) ?_)
  refine RunL.cons (Op1.move (v := .int .i64 _) rfl ?_)
  refine RunL.cons (Op1.call2 (v1 := .agg #[.int .u16 _, str _, .bool _, .bool _, str _, str _, .int .i64 _, .int .u8 _]) (v2 := .int .i64 _) ent37 rfl rfl rfl ((R2gr_letter (refD op) (refD_fok op) i h1 _).mono fun v w hp => ?_))
  obtain ⟨rfl, hp⟩ := hp
  replace hst := hst.keepc hp
  clear hp
  refine RunL.cons (Op1.assign (v := .int .u8 _) rfl ?_)
  refine RunL.nil ?_
  refine run_ret1 Try.func24 rfl (RV.tmp (v := .int .u8 _) rfl) ?_
  exact ⟨rfl, hst.pure⟩

end Go.SK
