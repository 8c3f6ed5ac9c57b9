/-
  Steps of functions, plain law, and walks of functions: what the laws rest on.
-/
import Derived.Test.YtalnjboddfedjaaDoorSkG0b
import Derived.Test.YtalnjboddfedjaaDoorSkG1a
import Derived.Test.YtalnjboddfedjaaDoorSkG6a
import Derived.Test.YtalnjboddfedjaaDoorSkG7a
import Derived.Test.YtalnjboddfedjaaDoorSkG9a
set_option linter.unusedVariables false
set_option linter.unusedSimpArgs false
set_option linter.unusedSectionVars false
namespace Go.SK
theorem eq_yes {α : Type} {d : α} {a b : List α} (hl : a.length = b.length) (h : ∀ j, j < a.length → a.getD j d = b.getD j d) : a = b := by
  apply List.ext_getElem hl
  intro j h1 h2
  have := h j h1
  simpa [List.getD, h1, h2] using this
theorem eq_no {α : Type} {d : α} {a b : List α} {i : Nat} (h : ¬ a.getD i d = b.getD i d) : ¬ a = b := fun e => h (by rw [e])
end Go.SK
namespace Go.SK
theorem tokAll_eq {a b : TokL} (h : (!([decide (a.kind = b.kind), decide (a.text = b.text), decide (a.at_ = b.at_)].all id)) = false) : a = b := by
  simp only [List.all_cons, List.all_nil, id_eq, Bool.and_true, Bool.not_eq_false', Bool.and_eq_true, decide_eq_true_eq] at h
  cases a; cases b; simp_all
theorem tokAll_ne {a b : TokL} (h : (!([decide (a.kind = b.kind), decide (a.text = b.text), decide (a.at_ = b.at_)].all id)) = true) : ¬ a = b := by
  rintro rfl; simp at h
end Go.SK
namespace Go.SK
open Go Go.Proofs
open Go.RowKit
theorem R4lx_tokens (l l2 : List TokL) (ao ao2 : Option Addr) (cp cp2 : Nat) (w : World) (hA0 : (Res.rs ao l.length 3 (l.flatMap tokC)).holds w) (hA1 : (Res.rs ao2 l2.length 3 (l2.flatMap tokC)).holds w) (hl : l.length ≤ 1099511627776) : Ret Tryd.prog 16 #[.slice ao l.length cp, .slice ao2 l2.length cp2] w (fun v w' => v = .bool (decide (l = l2)) ∧ St w NoM [] [] w') := by
 refine Ret.enter (args := [.slice ao l.length cp, .slice ao2 l2.length cp2]) Tryd.func16 rfl rfl rfl ?_
 have hst : St w NoM [] [Res.rs ao l.length 3 (l.flatMap tokC), Res.rs ao2 l2.length 3 (l2.flatMap tokC)] w := St.init_Ds (by simp only [List.forall_mem_cons]; exact ⟨hA0, hA1, fun _ h => absurd h List.not_mem_nil⟩)
 refine SR <| AB rfl <| NL <| SQ <| SR <| ML rfl <| CN <| Op1.lenSl (rest := []) ty22 rfl <| ML rfl <| CN <| Op1.lenSl (rest := []) ty22 rfl <| CN <| Op1.neq rfl rfl <| NL <| run_cond_dec rfl (fun g1 => ?_) (fun g1 => ?_)
 · skip
   refine SR <| AB rfl <| NL <| run_ret1 Tryd.func16 rfl (TP (v := .bool _) rfl) ?_
   rw [decide_eq_false (fun e => g1 (by rw [e]))]
   exact ⟨rfl, hst.pure⟩
 refine run_skip <| SQ <| SR <| AI rfl <| NL <| run_block <| run_loop <| Run.indW [(0, .slice _ _ _), (1, .slice _ _ _)] ⟨rfl, rfl, trivial⟩ (fun (qq : Nat) => [(5, .int .i64 (qq : Int))]) (fun (qq : Nat) => []) (fun (qq : Nat) => qq ≤ l.length ∧ l.length = l2.length ∧ ∀ j, j < qq → l.getD j tok0 = l2.getD j tok0) (fun (qq : Nat) => l.length - qq) (0) hst ⟨Nat.zero_le _, by omega, fun j hj => absurd hj (Nat.not_lt_zero _)⟩ ⟨rfl, trivial⟩ ?_
 intro i f w hst hJ ih2
 replace hst : St _ _ ([] ++ []) _ _ := hst
 replace hJ : i ≤ l.length ∧ l.length = l2.length ∧ ∀ j, j < i → l.getD j tok0 = l2.getD j tok0 := hJ
 refine Run.slots (sl := [(5, .int .i64 (i : Int))]) ⟨rfl, trivial⟩ ?_
 have hj1 := hJ.1
 have hj2 := hJ.2.1
 refine SQ <| SR <| MI rfl <| ML rfl <| CN <| Op1.lenSl (rest := []) ty22 rfl <| CN <| Op1.lss rfl rfl <| NL <| run_cond_dec rfl (fun g3 => ?_) (fun g3 => ?_)
 · skip
   refine run_skip <| SQ <| run_block <| SQ <| RunD.start [] hst (bs := [0, 0, 3, 7, 0, 0, 48, 112, 255]) (ds := [some 17, some 18, some 19, some 20, some 21, some 22, some 23, some 24, some 25]) ⟨by kernel_rfl, by kernel_rfl, by kernel_rfl⟩ (fun tab4 => ?_)
   refine RunD.op (det _) tab4 1 (fun f' L' w' hc => Op1.move (v := .slice _ _ _) (hc.old (v := .slice _ _ _) rfl rfl rfl) ⟨[], ⟨rfl, rfl⟩, hc.st⟩) <| RunD.op (det _) tab4 2 (fun f' L' w' hc => Op1.move (v := .int .i64 _) (hc.old (v := .int .i64 _) rfl rfl rfl) ⟨[], ⟨rfl, rfl⟩, hc.st⟩) <| RunD.op (det _) tab4 3 (fun f' L' w' hc => Op1.indexRs ty22 ty30 (hc.st.hD _ (.head _)) (hc.det (j := 0) rfl rfl rfl rfl) (hc.det (j := 1) rfl rfl rfl rfl) (by omega) (by omega) ⟨[], ⟨rfl, rfl⟩, hc.st⟩) <| RunD.op (det _) tab4 4 (fun f' L' w' hc => Op1.loadA (vs := [.int .u8 _, str _, .int .i64 _]) ty30 rfl (hc.det (j := 2) rfl rfl rfl rfl) rfl (Res.rs2_cells (m := 3) (hc.st.hD _ (.head _)) _ (flat_seg (g := tokC) (d := tok0) tokC_len _ _ (by omega))) ⟨[], ⟨rfl, rfl⟩, hc.st⟩) <| RunD.op (det _) tab4 5 (fun f' L' w' hc => Op1.move (v := .slice _ _ _) (hc.old (v := .slice _ _ _) rfl rfl rfl) ⟨[], ⟨rfl, rfl⟩, hc.st⟩) <| RunD.op (det _) tab4 6 (fun f' L' w' hc => Op1.move (v := .int .i64 _) (hc.old (v := .int .i64 _) rfl rfl rfl) ⟨[], ⟨rfl, rfl⟩, hc.st⟩) <| RunD.op (det _) tab4 7 (fun f' L' w' hc => Op1.indexRs ty22 ty30 (hc.st.hD _ (.tail _ (.head _))) (hc.det (j := 4) rfl rfl rfl rfl) (hc.det (j := 5) rfl rfl rfl rfl) (by omega) (by omega) ⟨[], ⟨rfl, rfl⟩, hc.st⟩) <| RunD.op (det _) tab4 8 (fun f' L' w' hc => Op1.loadA (vs := [.int .u8 _, str _, .int .i64 _]) ty30 rfl (hc.det (j := 6) rfl rfl rfl rfl) rfl (Res.rs2_cells (m := 3) (hc.st.hD _ (.tail _ (.head _))) _ (flat_seg (g := tokC) (d := tok0) tokC_len _ _ (by omega))) ⟨[], ⟨rfl, rfl⟩, hc.st⟩) <| RunD.fin followsMixed tab4 hst rfl (fun f5 w R8 hs6 hd7 hr9 hst => ?_)
   obtain ⟨h17_, r0⟩ := hd7 0 17 rfl rfl
   obtain ⟨h18_, r1⟩ := hd7 1 18 rfl rfl
   obtain ⟨h19_, r2⟩ := hd7 2 19 rfl rfl
   obtain ⟨h20_, r3⟩ := hd7 3 20 rfl rfl
   obtain ⟨h21_, r4⟩ := hd7 4 21 rfl rfl
   obtain ⟨h22_, r5⟩ := hd7 5 22 rfl rfl
   obtain ⟨h23_, r6⟩ := hd7 6 23 rfl rfl
   obtain ⟨h24_, r7⟩ := hd7 7 24 rfl rfl
   simp only [show List.range 8 = [0, 1, 2, 3, 4, 5, 6, 7] from rfl, List.flatMap_cons, List.flatMap_nil, List.map_cons, List.map_nil, r0, r1, r2, r3, r4, r5, r6, r7, List.nil_append, List.append_nil, List.cons_append] at hst
   refine RunL.slots (sl := [(0, .slice _ _ _), (1, .slice _ _ _), (5, .int .i64 _), (20, .agg #[.int .u8 _, str _, .int .i64 _]), (24, .agg #[.int .u8 _, str _, .int .i64 _])]) ⟨(hs6 0 rfl).trans rfl, (hs6 1 rfl).trans rfl, (hs6 5 rfl).trans rfl, h20_, h24_, trivial⟩ ?_
   clear hs6 hd7 hr9 tab4
   refine CN <| Op1.neqA (xs := [.int .u8 _, str _, .int .i64 _]) (ys := [.int .u8 _, str _, .int .i64 _]) rfl rfl (by kernel_rfl) (EqOk.struct Tryd.underlying30 (by kernel_rfl) (.cons (by decide) (PartOk.one ty5 rfl rfl) (PartOk.one ty5 rfl rfl) (EqOk.int ty5) (.cons (by decide) (PartOk.one ty9 rfl rfl) (PartOk.one ty9 rfl rfl) (EqOk.str ty9) (.cons (by decide) (PartOk.one ty3 rfl rfl) (PartOk.one ty3 rfl rfl) (EqOk.int ty3) .nil)))) <| NL <| run_cond_split rfl (fun g10 => ?_) (fun g10 => ?_)
   · skip
     have hne : ¬ l.getD i tok0 = l2.getD i tok0 := tokAll_ne g10
     refine SR <| AB rfl <| NL <| run_ret1 Tryd.func16 rfl (TP (v := .bool _) rfl) ?_
     rw [decide_eq_false (eq_no hne)]
     exact ⟨rfl, hst.pure⟩
   have heq : l.getD i tok0 = l2.getD i tok0 := tokAll_eq g10
   refine run_skip <| run_inBlock <| RG <| MI rfl <| CN <| Op1.addN rfl rfl rfl (wrap_i64 (by omega) (by omega)) <| AI rfl <| NL <| run_inLoop ?_
   exact ih2 (i + 1) _ w ((by omega)) hst (⟨by omega, by omega, lt_succ_all hJ.2.2 heq⟩) ⟨rfl, rfl, trivial⟩ ⟨(congrArg (Value.int .i64) (by omega)), trivial⟩
 refine run_exit (id := 0) rfl <| SR <| AB rfl <| NL <| run_ret1 Tryd.func16 rfl (TP (v := .bool _) rfl) ?_
 rw [decide_eq_true (eq_yes hJ.2.1 (fun j hj => hJ.2.2 j (by omega)))]
 exact ⟨rfl, hst.pure⟩
end Go.SK
namespace Go.SK
open Go Go.Proofs
theorem ent16 : Enters Tryd.prog 16 := ⟨Tryd.f16, _, Tryd.func16, by kernel_rfl, rfl⟩
end Go.SK
