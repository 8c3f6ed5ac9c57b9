/-
  Steps of functions, plain law, and walks of functions: what the laws rest on.
-/
import Derived.Test.YtoodfjpigminkaaSkG0d
import Derived.Test.YtoodfjpigminkaaSkG1a
import Derived.Test.YtoodfjpigminkaaSkG2a
import Derived.Test.YtoodfjpigminkaaSkG3a
set_option linter.unusedVariables false
set_option linter.unusedSimpArgs false
set_option linter.unusedSectionVars false
namespace Go.SK
open Go.RowKit Go.ChangeShapes Go.WideShapes Go.ChangeAt
theorem cpS_step {α : Type} {g : α → List Value} {es : Nat} (hg : ∀ a, (g a).length = es) {d y : α} {done : List α} {n i : Nat} {x : List Value} (hl : done.length = i) (hn : i < n) (hx : x = g y) : setSeg ((done ++ List.replicate (n - i) d).flatMap g) (0 + (i : Int).toNat * es) x = ((done ++ [y]) ++ List.replicate (n - (i + 1)) d).flatMap g := by
  subst hx
  rw [Nat.zero_add, Int.toNat_natCast, setSeg_flat hg _ _ _ (by simp; omega)]
  congr 1
  rw [List.set_append_right _ _ (by omega), hl, Nat.sub_self, show n - i = (n - (i + 1)) + 1 by omega, List.replicate_succ, List.set_cons_zero, List.append_assoc]
  rfl
theorem zeros_rep {α : Type} {g : α → List Value} {d : α} {ez : List Value} (hd : g d = ez) (n : Nat) : zerosOf ez n = (([] : List α) ++ List.replicate (n - 0) d).flatMap g := by
  rw [cpG_zero hd [] n]; simp [cpG]
end Go.SK
namespace Go.SK
open Go Go.Proofs
open Go.RowKit
theorem R3md_CopyModule (ga ba : Int) (l : List InstP) (ao : Option Addr) (cp : Nat) (w : World) (hA : (Res.rmod ao l).holds w) (hl : l.length ≤ 3518437208884) (hla : ∀ i ∈ l, i.args.length ≤ 5864062014806) : Ret Try.prog 21 #[.agg #[.int .u32 ga, .int .u32 ba, .slice ao l.length cp]] w (fun v w' => ∃ bC done, v = .agg #[.int .u32 ga, .int .u32 ba, .slice (some ⟨bC, 0, none⟩) done.length done.length] ∧ done.map InstP.L = l.map InstP.L ∧ St w NoM [Res.omod 48 71 (some ⟨bC, 0, none⟩) done.length done] [] w') := by
 refine Ret.enter (args := [.agg #[.int .u32 ga, .int .u32 ba, .slice ao l.length cp]]) Try.func21 rfl rfl rfl ?_
 have hst : St w NoM [] [Res.rmod ao l] w := St.init_D hA
 clear hA
 refine SR <| CN <| Op1.box (v := .agg #[.int .u32 _, .int .u32 _, .slice _ _ _]) hst rfl rfl fun w b1 hst => CN <| Op1.alloc hst ty26 fun w b2 hst => NSR <| CN <| Op1.fieldAddr fld26_2 rfl <| CN <| Op1.load1 (v := .slice _ _ _) ty24 rfl rfl (hst.cellL (.tail _ (.head _)) rfl) <| CN <| Op1.lenSl (rest := []) ty24 rfl <| CN (Op1.makeSlV hst ty24 ty48 rfl rfl rfl (by decide) (by omega) (by omega) fun w bC hst => ?_)
 rw [zeros_rep (g := instC) (d := zeroI) (ez := [.int .u16 0, .int .u32 0, .int .u32 0, .slice none 0 0]) rfl] at hst
 refine AL rfl <| NL <| SQ <| SQ ?_
 replace hst := hst.starNil
 refine RG <| AI rfl <| NL <| run_block <| run_loop <| Run.indW [(1, .pointer (some ⟨_, _, none⟩)), (2, .pointer (some ⟨_, _, none⟩)), (3, .slice _ _ _)] ⟨rfl, rfl, rfl, trivial⟩ (fun (q : Nat × List InstP) => [(4, .int .i64 (q.1 : Int))]) (fun (q : Nat × List InstP) => [Res.star (q.2.map (Res.oargs 71)), Res.sl (some ⟨bC, 0, none⟩) l.length l.length 48 4 ((q.2 ++ List.replicate (l.length - q.1) zeroI).flatMap instC)]) (fun (q : Nat × List InstP) => q.1 ≤ l.length ∧ q.2.length = q.1 ∧ q.2.map InstP.L = (l.take q.1).map InstP.L) (fun (q : Nat × List InstP) => l.length - q.1) ((0, [])) hst ⟨Nat.zero_le _, rfl, rfl⟩ ⟨rfl, trivial⟩ ?_
 intro ⟨i, done⟩ f w hst hJ ih1
 replace hst : St _ _ ([Res.star (done.map (Res.oargs 71)), Res.sl (some ⟨bC, 0, none⟩) l.length l.length 48 4 ((done ++ List.replicate (l.length - i) zeroI).flatMap instC)] ++ [_, _]) _ _ := hst
 replace hJ : i ≤ l.length ∧ done.length = i ∧ done.map InstP.L = (l.take i).map InstP.L := hJ
 refine Run.slots (sl := [(4, .int .i64 (i : Int))]) ⟨rfl, trivial⟩ <| SQ <| SR <| MI rfl <| CN <| Op1.fieldAddr fld26_2 rfl <| CN <| Op1.load1 (v := .slice _ _ _) ty24 rfl rfl (hst.cellL (.tail _ (.tail _ (.tail _ (.head _)))) rfl) <| CN <| Op1.lenSl (rest := []) ty24 rfl <| CN <| Op1.lss rfl rfl <| NL <| run_cond_dec rfl (fun g2 => ?_) (fun g2 => ?_)
 · skip
   refine run_skip <| SQ <| run_block <| RG <| ML rfl <| MI rfl <| CN <| Op1.fieldAddr fld26_2 rfl <| CN <| Op1.load1 (v := .slice _ _ _) ty24 rfl rfl (hst.cellL (.tail _ (.tail _ (.tail _ (.head _)))) rfl) <| MI rfl <| CN <| Op1.indexRs ty24 ty48 (Res.rmod_insts (hst.hD _ (.head _))) rfl rfl (by omega) (by omega) <| CN <| Op1.loadA (vs := [.int .u16 _, .int .u32 _, .int .u32 _, .slice _ _ _]) ty48 rfl rfl rfl (Res.rs2_cells (m := 4) (Res.rmod_insts (hst.hD _ (.head _))) _ (flat_seg (g := instC) (d := zeroI) instC_len _ _ (by omega))) <| CN (Op1.call1 (v1 := .agg #[.int .u16 _, .int .u32 _, .int .u32 _, .slice _ _ _]) ent31 rfl rfl ((R3md_CopyInst _ _ (Res.rmod_argsI (hst.hD _ (.head _)) (by omega)) (hla _ (getD_memD (by omega)))).mono fun v w hp => ?_))
   obtain ⟨bN, rfl, hp⟩ := hp
   replace hst := hst.call0 hp
   clear hp
   refine CN <| Op1.indexSl ty24 ty48 rfl rfl (by omega) (by omega) <| CN <| Op1.storeSl (v := .agg #[.int .u16 _, .int .u32 _, .int .u32 _, .slice _ _ _]) hst ty48 rfl rfl rfl rfl rfl (.there (.there (.here))) (by simp only [List.length_cons, List.length_nil]; omega) fun w hst => NL <| run_inBlock <| RG <| MI rfl <| CN <| Op1.addN rfl rfl rfl (wrap_i64 (by omega) (by omega)) <| AI rfl <| NL <| run_inLoop ?_
   replace hst := hst.pick (.cons (.here) (.cons (.here) (.cons (.here) (.cons (.here) (.cons (.here) .nil)))))
   replace hst := hst.starSnoc
   exact ih1 ((i + 1, done ++ [⟨(l.getD i zeroI).op, (l.getD i zeroI).ty, (l.getD i zeroI).res, some ⟨bN, 0, none⟩, (l.getD i zeroI).args.length, (l.getD i zeroI).args⟩])) _ w (by (try dsimp only); omega) (by (try dsimp only); rw [List.map_append, ← cpS_step (g := instC) (es := 4) instC_len (y := ⟨(l.getD i zeroI).op, (l.getD i zeroI).ty, (l.getD i zeroI).res, some ⟨bN, 0, none⟩, (l.getD i zeroI).args.length, (l.getD i zeroI).args⟩) (x := instC ⟨(l.getD i zeroI).op, (l.getD i zeroI).ty, (l.getD i zeroI).res, some ⟨bN, 0, none⟩, (l.getD i zeroI).args.length, (l.getD i zeroI).args⟩) hJ.2.1 (by omega) rfl]; exact hst) (⟨by (try dsimp only); omega, by simp [hJ.2.1], by rw [List.map_append, hJ.2.2, take_getD2 (d := zeroI) (by omega), List.map_append]; rfl⟩) ⟨rfl, rfl, rfl, trivial⟩ ⟨(congrArg (Value.int .i64) (by (try dsimp only); omega)), trivial⟩
 obtain rfl : i = l.length := by omega
 rw [Nat.sub_self, List.replicate_zero, List.append_nil done] at hst
 have hdl := hJ.2.1
 have hdn := hJ.2.2
 rw [List.take_length] at hdn
 refine run_exit (id := 0) rfl <| SR <| ML rfl <| CN <| Op1.fieldAddr fld26_2 rfl <| CN (SO (v := .slice _ _ _) hst ty24 rfl rfl (.there (.there (.there (.here)))) fun w hst => ?_)
 refine NSR <| CN <| Op1.loadA (vs := [.int .u32 _, .int .u32 _, .slice _ _ _]) ty26 rfl rfl rfl (cells_of_obj (n := 3) (hst.objL (.tail _ (.tail _ (.tail _ (.head _))))) _ rfl) <| CN (SO (v := .agg #[.int .u32 _, .int .u32 _, .slice _ _ _]) hst ty26 rfl rfl (.there (.there (.here))) fun w hst => ?_)
 refine NL <| run_ret1 Try.func21 rfl (RV.cellA (vs := [.int .u32 _, .int .u32 _, .slice _ _ _]) rfl ty26 rfl rfl (cells_of_obj (n := 3) (hst.objL (.tail _ (.tail _ (.head _)))) _ rfl)) ?_
 replace hst := hst.pick (.cons (.there (.here)) (.cons (.here) .nil))
 rw [← hdl] at hst
 exact ⟨bC, done, (by rw [hdl]), hdn, (St.starCons hst).noD⟩
end Go.SK
namespace Go.SK
theorem Small.lenC {l : List InstP} (h : Small l) : l.length ≤ 3518437208884 := by have := h.len; omega
theorem Small.laC {l : List InstP} (h : Small l) : ∀ i ∈ l, i.args.length ≤ 5864062014806 := fun i hi => by have := h.args i hi; omega
end Go.SK
namespace Go.SK
open Go Go.Proofs
theorem ent21 : Enters Try.prog 21 := ⟨Try.f21, _, Try.func21, by kernel_rfl, rfl⟩
end Go.SK
