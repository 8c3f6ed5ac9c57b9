/-
  Walks of functions, and of the laws over them.
-/
import Derived.Test.YtnbapjkldjhjoaaSkMdP
import Derived.Test.YtnbapjkldjhjoaaSkR1MdA
import Derived.Test.YtnbapjkldjhjoaaSkR1MdBF
set_option linter.unusedVariables false
set_option linter.unusedSimpArgs false
namespace Go.SK
open Go Go.Proofs
open Go.RowKit
theorem R1md_CopyInst (p : InstP) (w : World) (hA : (Res.rargs p).holds w) (hl : p.args.length ≤ 5864062014806) : Ret Try.prog 56 #[.agg #[.int .u16 p.op, .int .u32 p.ty, .int .u32 p.res, .slice p.ao p.args.length p.cap]] w (fun v w' => ∃ bC, v = .agg #[.int .u16 p.op, .int .u32 p.ty, .int .u32 p.res, .slice (some ⟨bC, 0, none⟩) p.args.length p.args.length] ∧ St w NoM [Res.sl (some ⟨bC, 0, none⟩) p.args.length p.args.length 89 3 (p.args.flatMap argC)] [] w') := by
  refine Ret.enter (args := [.agg #[.int .u16 p.op, .int .u32 p.ty, .int .u32 p.res, .slice p.ao p.args.length p.cap]]) Try.func56 rfl rfl rfl ?_
  have hst : St w NoM [] [Res.rargs p] w := St.init_D hA
  clear hA
  refine run_seq ?_
  refine run_region ?_
  refine RunL.cons (Op1.box (v := .agg #[.int .u16 _, .int .u32 _, .int .u32 _, .slice _ _ _]) hst rfl rfl fun w b1 hst => ?_)
  refine RunL.cons (Op1.alloc hst ty84 fun w b2 hst => ?_)
  refine RunL.nil ?_
  refine run_seq ?_
  refine run_region ?_
  refine RunL.cons (Op1.fieldAddr fld84_3 rfl ?_)
  refine RunL.cons (Op1.load1 (v := .slice _ _ _) ty82 rfl rfl (hst.cellL (.tail _ (.head _)) rfl) ?_)
  refine RunL.cons (Op1.lenSl (rest := []) ty82 rfl ?_)
  refine RunL.cons (Op1.makeSlV hst ty82 ty89 rfl rfl rfl (by decide) (by omega) (by omega) fun w bC hst => ?_)
  rw [cpG_zero (g := argC) (d := zeroA) (ez := [.int .u8 0, .int .u32 0, str []]) rfl p.args] at hst
  refine RunL.cons (Op1.assign (v := .slice _ _ _) rfl ?_)
  refine RunL.nil ?_
  refine run_seq ?_
  refine run_seq ?_
  refine run_region ?_
  refine RunL.cons (Op1.assign (v := .int .i64 _) rfl ?_)
  refine RunL.nil ?_
  refine run_block ?_
  refine run_loop ?_
  refine Run.indW [(1, .pointer (some ⟨_, _, none⟩)), (2, .pointer (some ⟨_, _, none⟩)), (3, .slice _ _ _)] ⟨rfl, rfl, rfl, trivial⟩ (fun (i : Nat) => [(4, .int .i64 (i : Int))]) (fun (i : Nat) => [Res.sl (some ⟨bC, 0, none⟩) p.args.length p.args.length 89 3 ((cpG zeroA p.args p.args.length i).flatMap argC)]) (fun (i : Nat) => i ≤ p.args.length) (fun (i : Nat) => p.args.length - i) (0) hst (Nat.zero_le _) ⟨rfl, trivial⟩ ?_
  intro i f w hst hJ ih1
  refine run_seq ?_
  refine run_seq ?_
  refine run_region ?_
  refine RunL.cons (Op1.move (v := .int .i64 _) rfl ?_)
  refine RunL.cons (Op1.fieldAddr fld84_3 rfl ?_)
  refine RunL.cons (Op1.load1 (v := .slice _ _ _) ty82 rfl rfl (hst.cellL (.tail _ (.tail _ (.head _))) rfl) ?_)
  refine RunL.cons (Op1.lenSl (rest := []) ty82 rfl ?_)
  refine RunL.cons (Op1.lss rfl rfl ?_)
  refine RunL.nil ?_
  refine run_cond_dec rfl (fun g2 => ?_) (fun g2 => ?_)
  · skip
    refine run_skip ?_
    refine run_seq ?_
    refine run_block ?_
    refine run_region ?_
    refine RunL.cons (Op1.move (v := .slice _ _ _) rfl ?_)
    refine RunL.cons (Op1.move (v := .int .i64 _) rfl ?_)
    refine RunL.cons (Op1.fieldAddr fld84_3 rfl ?_)
    refine RunL.cons (Op1.load1 (v := .slice _ _ _) ty82 rfl rfl (hst.cellL (.tail _ (.tail _ (.head _))) rfl) ?_)
    refine RunL.cons (Op1.move (v := .int .i64 _) rfl ?_)
    refine RunL.cons (Op1.indexRs ty82 ty89 (hst.hD _ (.head _)) rfl rfl (by omega) (by omega) ?_)
    refine RunL.cons (Op1.loadA (vs := [.int .u8 _, .int .u32 _, str _]) ty89 rfl rfl rfl (Res.rs2_cells (m := 3) (hst.hD _ (.head _)) _ (flat_seg (g := argC) (d := zeroA) argC_len _ _ (by omega))) ?_)
    refine RunL.cons (Op1.indexSl ty82 ty89 rfl rfl (by omega) (by omega) ?_)
    refine RunL.cons (Op1.storeSl (v := .agg #[.int .u8 _, .int .u32 _, str _]) hst ty89 rfl rfl rfl rfl rfl (.here) (by simp only [List.length_cons, List.length_nil]; omega) fun w hst => ?_)
    refine RunL.nil ?_
    refine run_inBlock ?_
    refine run_region ?_
    refine RunL.cons (Op1.move (v := .int .i64 _) rfl ?_)
    refine RunL.cons (Op1.addN rfl rfl rfl (wrap_i64 (by omega) (by omega)) ?_)
    refine RunL.cons (Op1.assign (v := .int .i64 _) rfl ?_)
    refine RunL.nil ?_
    refine run_inLoop ?_
    exact ih1 (i + 1) _ w (by omega) (by (try dsimp only); rw [← cpG_step (g := argC) (es := 3) argC_len (i := i) (x := argC (p.args.getD i zeroA)) (by omega) rfl]; exact hst) (by omega) ⟨rfl, rfl, rfl, trivial⟩ ⟨(congrArg (Value.int .i64) (by omega)), trivial⟩
  obtain rfl : i = p.args.length := by omega
  rw [cpG_all] at hst
  refine run_exit (id := 0) rfl ?_
  refine run_seq ?_
  refine run_region ?_
  refine RunL.cons (Op1.move (v := .slice _ _ _) rfl ?_)
  refine RunL.cons (Op1.fieldAddr fld84_3 rfl ?_)
  refine RunL.cons (Op1.store (v := .slice _ _ _) hst ty82 rfl rfl rfl rfl rfl (.there (.there (.here))) (by repeat (first | exact Put.nil | apply Put.put | apply Put.skip)) fun w hst => ?_)
  refine RunL.nil ?_
  refine run_seq ?_
  refine run_region ?_
  refine RunL.cons (Op1.loadA (vs := [.int .u16 _, .int .u32 _, .int .u32 _, .slice _ _ _]) ty84 rfl rfl rfl (cells_of_obj (n := 4) (hst.objL (.tail _ (.tail _ (.head _)))) _ rfl) ?_)
  refine RunL.cons (Op1.store (v := .agg #[.int .u16 _, .int .u32 _, .int .u32 _, .slice _ _ _]) hst ty84 rfl rfl rfl rfl rfl (.there (.here)) (by repeat (first | exact Put.nil | apply Put.put | apply Put.skip)) fun w hst => ?_)
  refine RunL.nil ?_
  refine run_ret1 Try.func56 rfl (RV.cellA (vs := [.int .u16 _, .int .u32 _, .int .u32 _, .slice _ _ _]) rfl ty84 rfl rfl (cells_of_obj (n := 4) (hst.objL (.tail _ (.head _))) _ rfl)) ?_
  replace hst := hst.pick (.cons (.here) .nil)
  exact ⟨bC, rfl, hst.noD⟩

theorem R1md_CopyModule (ga ba : Int) (l : List InstP) (ao : Option Addr) (cp : Nat) (w : World) (hA : (Res.rmod ao l).holds w) (hl : l.length ≤ 3518437208884) (hla : ∀ i ∈ l, i.args.length ≤ 5864062014806) : Ret Try.prog 31 #[.agg #[.int .u32 ga, .int .u32 ba, .slice ao l.length cp]] w (fun v w' => ∃ bC done, v = .agg #[.int .u32 ga, .int .u32 ba, .slice (some ⟨bC, 0, none⟩) done.length done.length] ∧ done.map InstP.L = l.map InstP.L ∧ St w NoM [Res.omod 84 89 (some ⟨bC, 0, none⟩) done.length done] [] w') := by
  refine Ret.enter (args := [.agg #[.int .u32 ga, .int .u32 ba, .slice ao l.length cp]]) Try.func31 rfl rfl rfl ?_
  have hst : St w NoM [] [Res.rmod ao l] w := St.init_D hA
  clear hA
  refine run_seq ?_
  refine run_region ?_
  refine RunL.cons (Op1.box (v := .agg #[.int .u32 _, .int .u32 _, .slice _ _ _]) hst rfl rfl fun w b1 hst => ?_)
  refine RunL.cons (Op1.alloc hst ty37 fun w b2 hst => ?_)
  refine RunL.nil ?_
  refine run_seq ?_
  refine run_region ?_
  refine RunL.cons (Op1.fieldAddr fld37_2 rfl ?_)
  refine RunL.cons (Op1.load1 (v := .slice _ _ _) ty35 rfl rfl (hst.cellL (.tail _ (.head _)) rfl) ?_)
  refine RunL.cons (Op1.lenSl (rest := []) ty35 rfl ?_)
  refine RunL.cons (Op1.makeSlV hst ty35 ty84 rfl rfl rfl (by decide) (by omega) (by omega) fun w bC hst => ?_)
  rw [zeros_rep (g := instC) (d := zeroI) (ez := [.int .u16 0, .int .u32 0, .int .u32 0, .slice none 0 0]) rfl] at hst
  refine RunL.cons (Op1.assign (v := .slice _ _ _) rfl ?_)
  refine RunL.nil ?_
  refine run_seq ?_
  refine run_seq ?_
  replace hst := hst.starNil
  refine run_region ?_
  refine RunL.cons (Op1.assign (v := .int .i64 _) rfl ?_)
  refine RunL.nil ?_
  refine run_block ?_
  refine run_loop ?_
  refine Run.indW [(1, .pointer (some ⟨_, _, none⟩)), (2, .pointer (some ⟨_, _, none⟩)), (3, .slice _ _ _)] ⟨rfl, rfl, rfl, trivial⟩ (fun (q : Nat × List InstP) => [(4, .int .i64 (q.1 : Int))]) (fun (q : Nat × List InstP) => [Res.star (q.2.map (Res.oargs 89)), Res.sl (some ⟨bC, 0, none⟩) l.length l.length 84 4 ((q.2 ++ List.replicate (l.length - q.1) zeroI).flatMap instC)]) (fun (q : Nat × List InstP) => q.1 ≤ l.length ∧ q.2.length = q.1 ∧ q.2.map InstP.L = (l.take q.1).map InstP.L) (fun (q : Nat × List InstP) => l.length - q.1) ((0, [])) hst ⟨Nat.zero_le _, rfl, rfl⟩ ⟨rfl, trivial⟩ ?_
  intro ⟨i, done⟩ f w hst hJ ih1
  replace hst : St _ _ ([Res.star (done.map (Res.oargs 89)), Res.sl (some ⟨bC, 0, none⟩) l.length l.length 84 4 ((done ++ List.replicate (l.length - i) zeroI).flatMap instC)] ++ [_, _]) _ _ := hst
  replace hJ : i ≤ l.length ∧ done.length = i ∧ done.map InstP.L = (l.take i).map InstP.L := hJ
  refine Run.slots (sl := [(4, .int .i64 (i : Int))]) ⟨rfl, trivial⟩ ?_
  refine run_seq ?_
  refine run_seq ?_
  refine run_region ?_
  refine RunL.cons (Op1.move (v := .int .i64 _) rfl ?_)
  refine RunL.cons (Op1.fieldAddr fld37_2 rfl ?_)
  refine RunL.cons (Op1.load1 (v := .slice _ _ _) ty35 rfl rfl (hst.cellL (.tail _ (.tail _ (.tail _ (.head _)))) rfl) ?_)
  refine RunL.cons (Op1.lenSl (rest := []) ty35 rfl ?_)
  refine RunL.cons (Op1.lss rfl rfl ?_)
  refine RunL.nil ?_
  refine run_cond_dec rfl (fun g2 => ?_) (fun g2 => ?_)
  · skip
    refine run_skip ?_
    refine run_seq ?_
    refine run_block ?_
    refine run_region ?_
    refine RunL.cons (Op1.move (v := .slice _ _ _) rfl ?_)
    refine RunL.cons (Op1.move (v := .int .i64 _) rfl ?_)
    refine RunL.cons (Op1.fieldAddr fld37_2 rfl ?_)
    refine RunL.cons (Op1.load1 (v := .slice _ _ _) ty35 rfl rfl (hst.cellL (.tail _ (.tail _ (.tail _ (.head _)))) rfl) ?_)
    refine RunL.cons (Op1.move (v := .int .i64 _) rfl ?_)
    refine RunL.cons (Op1.indexRs ty35 ty84 (Res.rmod_insts (hst.hD _ (.head _))) rfl rfl (by omega) (by omega) ?_)
    refine RunL.cons (Op1.loadA (vs := [.int .u16 _, .int .u32 _, .int .u32 _, .slice _ _ _]) ty84 rfl rfl rfl (Res.rs2_cells (m := 4) (Res.rmod_insts (hst.hD _ (.head _))) _ (flat_seg (g := instC) (d := zeroI) instC_len _ _ (by omega))) ?_)
    refine RunL.cons (Op1.call1 (v1 := .agg #[.int .u16 _, .int .u32 _, .int .u32 _, .slice _ _ _]) ent56 rfl rfl ((R1md_CopyInst _ _ (Res.rmod_argsI (hst.hD _ (.head _)) (by omega)) (hla _ (getD_memD (by omega)))).mono fun v w hp => ?_))
    obtain ⟨bN, rfl, hp⟩ := hp
    replace hst := hst.call0 hp
    clear hp
    refine RunL.cons (Op1.indexSl ty35 ty84 rfl rfl (by omega) (by omega) ?_)
    refine RunL.cons (Op1.storeSl (v := .agg #[.int .u16 _, .int .u32 _, .int .u32 _, .slice _ _ _]) hst ty84 rfl rfl rfl rfl rfl (.there (.there (.here))) (by simp only [List.length_cons, List.length_nil]; omega) fun w hst => ?_)
    refine RunL.nil ?_
    refine run_inBlock ?_
    refine run_region ?_
    refine RunL.cons (Op1.move (v := .int .i64 _) rfl ?_)
    refine RunL.cons (Op1.addN rfl rfl rfl (wrap_i64 (by omega) (by omega)) ?_)
    refine RunL.cons (Op1.assign (v := .int .i64 _) rfl ?_)
    refine RunL.nil ?_
    refine run_inLoop ?_
    replace hst := hst.pick (.cons (.here) (.cons (.here) (.cons (.here) (.cons (.here) (.cons (.here) .nil)))))
    replace hst := hst.starSnoc
    exact ih1 ((i + 1, done ++ [⟨(l.getD i zeroI).op, (l.getD i zeroI).ty, (l.getD i zeroI).res, some ⟨bN, 0, none⟩, (l.getD i zeroI).args.length, (l.getD i zeroI).args⟩])) _ w (by (try dsimp only); omega) (by (try dsimp only); rw [List.map_append, ← cpS_step (g := instC) (es := 4) instC_len (y := ⟨(l.getD i zeroI).op, (l.getD i zeroI).ty, (l.getD i zeroI).res, some ⟨bN, 0, none⟩, (l.getD i zeroI).args.length, (l.getD i zeroI).args⟩) (x := instC ⟨(l.getD i zeroI).op, (l.getD i zeroI).ty, (l.getD i zeroI).res, some ⟨bN, 0, none⟩, (l.getD i zeroI).args.length, (l.getD i zeroI).args⟩) hJ.2.1 (by omega) rfl]; exact hst) (⟨by (try dsimp only); omega, by simp [hJ.2.1], by rw [List.map_append, hJ.2.2, take_getD2 (d := zeroI) (by omega), List.map_append]; rfl⟩) ⟨rfl, rfl, rfl, trivial⟩ ⟨(congrArg (Value.int .i64) (by (try dsimp only); omega)), trivial⟩
  obtain rfl : i = l.length := by omega
  rw [Nat.sub_self, List.replicate_zero, List.append_nil done] at hst
  have hdl := hJ.2.1
  have hdn := hJ.2.2
  rw [List.take_length] at hdn
  refine run_exit (id := 0) rfl ?_
  refine run_seq ?_
  refine run_region ?_
  refine RunL.cons (Op1.move (v := .slice _ _ _) rfl ?_)
  refine RunL.cons (Op1.fieldAddr fld37_2 rfl ?_)
  refine RunL.cons (Op1.store (v := .slice _ _ _) hst ty35 rfl rfl rfl rfl rfl (.there (.there (.there (.here)))) (by repeat (first | exact Put.nil | apply Put.put | apply Put.skip)) fun w hst => ?_)
  refine RunL.nil ?_
  refine run_seq ?_
  refine run_region ?_
  refine RunL.cons (Op1.loadA (vs := [.int .u32 _, .int .u32 _, .slice _ _ _]) ty37 rfl rfl rfl (cells_of_obj (n := 3) (hst.objL (.tail _ (.tail _ (.tail _ (.head _))))) _ rfl) ?_)
  refine RunL.cons (Op1.store (v := .agg #[.int .u32 _, .int .u32 _, .slice _ _ _]) hst ty37 rfl rfl rfl rfl rfl (.there (.there (.here))) (by repeat (first | exact Put.nil | apply Put.put | apply Put.skip)) fun w hst => ?_)
  refine RunL.nil ?_
  refine run_ret1 Try.func31 rfl (RV.cellA (vs := [.int .u32 _, .int .u32 _, .slice _ _ _]) rfl ty37 rfl rfl (cells_of_obj (n := 3) (hst.objL (.tail _ (.tail _ (.head _)))) _ rfl)) ?_
  replace hst := hst.pick (.cons (.there (.here)) (.cons (.here) .nil))
  rw [← hdl] at hst
  exact ⟨bC, done, (by rw [hdl]), hdn, (St.starCons hst).noD⟩

end Go.SK
