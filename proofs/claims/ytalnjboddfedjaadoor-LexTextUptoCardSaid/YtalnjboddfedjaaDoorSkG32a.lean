/-
  Steps of functions, plain law, and walks of functions: what the laws rest on.
-/
import Derived.Test.YtalnjboddfedjaaDoorSkG0b
import Derived.Test.YtalnjboddfedjaaDoorSkG1a
import Derived.Test.YtalnjboddfedjaaDoorSkG2a
import Derived.Test.YtalnjboddfedjaaDoorSkG3a
import Derived.Test.YtalnjboddfedjaaDoorSkG4a
import Derived.Test.YtalnjboddfedjaaDoorSkG5a
import Derived.Test.YtalnjboddfedjaaDoorSkG7a
import Derived.Test.YtalnjboddfedjaaDoorSkG8a
import Derived.Test.YtalnjboddfedjaaDoorSkG13a
set_option linter.unusedVariables false
set_option linter.unusedSimpArgs false
set_option linter.unusedSectionVars false
namespace Go.SK
theorem quo_chars (s : Tx) : (quoteF s).all (fun c => decide (32 ≤ c.toNat ∧ c.toNat ≤ 126)) = true := by
  unfold quoteF
  have h1 : ∀ c : UInt8, (quoC c).all (fun c => decide (32 ≤ c.toNat ∧ c.toNat ≤ 126)) = true := fun c => by
    have hx : ∀ n < 16, 32 ≤ (hexD n).toNat ∧ (hexD n).toNat ≤ 126 := by decide
    have hc := c.toNat_lt
    by_cases h1 : c.toNat < 32 ∨ 126 < c.toNat
    · rw [quoC_hex h1]
      have := hx (c.toNat / 16) (by omega); have := hx (c.toNat % 16) (by omega)
      simp; omega
    · by_cases h2 : c.toNat = 34 ∨ c.toNat = 92
      · rw [quoC_esc h1 h2]; simp; omega
      · rw [quoC_one h1 h2]; simp; omega
  rw [List.all_cons, List.all_append, List.all_flatMap]
  rw [List.all_eq_true.2 (fun c _ => h1 c)]; decide
end Go.SK
namespace Go.SK
theorem quo_toks (s : Tx) : toksF (quoteF s) = ([⟨4, s, 0⟩], (0, 0)) := by
  have hw : wrL [⟨4, s, 0⟩] = some [quoteF s] := by rw [wrL, wr4_ok rfl]; rfl
  have := forth_toks hw
  rw [join_one'] at this
  exact this
theorem quo_char {s : Tx} {i : Nat} (h : i < (quoteF s).length) : 32 ≤ ((quoteF s).getD i 0).toNat ∧ ((quoteF s).getD i 0).toNat ≤ 126 := of_decide_eq_true (all_get (quo_chars s) h)
end Go.SK
namespace Go.SK
open Go Go.Proofs
open Go.RowKit
theorem R4law_LexText (s : Tx) (w : World) (hG : LxG.holds w) (hl : s.length ≤ 274877906943) : Ret Tryd.prog 10 #[str s] w (fun v w' => v = .bool true ∧ St w NoM [] [] w') := by
 refine Ret.enter (args := [str s]) Tryd.func10 rfl rfl rfl ?_
 have hst : St w NoM [] [LxG] w := St.init_Ds (by simp only [List.forall_mem_cons]; exact ⟨hG, fun _ h => absurd h List.not_mem_nil⟩)
 have hql := quote_len s
 refine SR <| AB rfl <| NSR <| MS rfl <| CN <| Op1.call1 (v1 := str _) ent20 rfl rfl <| Ret.det (R4lx_lQuote s _ (by omega)) hst fun w hst => AS rfl <| NSR <| MS rfl <| CN (Op1.call1 (v1 := str _) ent15 rfl rfl ((R4lx_TokE (quoteF s) [⟨4, s, 0⟩] 0 0 (quo_toks s) _ (hst.hD _ (.head _)) (by omega)).mono fun v w hp => ?_))
 obtain ⟨ao_x1, cp_x1, rfl, hp⟩ := hp
 replace hst := hst.call0 hp
 clear hp
 refine CN <| Op1.move (v := .tuple #[.slice _ _ _, .agg #[.int .i64 _, .int .i64 _]]) rfl <| CN <| Op1.extract (v := .slice _ _ _) rfl rfl <| CN <| Op1.extract (v := .agg #[.int .i64 _, .int .i64 _]) rfl rfl <| CN <| Op1.alloc hst ty25 fun w b5 hst => AL rfl <| CN (SO (v := .agg #[.int .i64 _, .int .i64 _]) hst ty25 rfl rfl (.here) fun w hst => ?_)
 refine NL <| SQ <| SR <| AI rfl <| NL <| run_block <| run_loop <| Run.indW [(0, str _), (3, str _), (4, .slice _ _ _), (5, .pointer (some ⟨_, _, none⟩))] ⟨rfl, rfl, rfl, rfl, trivial⟩ (fun (qq : Nat) => [(6, .int .i64 (qq : Int))]) (fun (qq : Nat) => []) (fun (qq : Nat) => qq ≤ (quoteF s).length) (fun (qq : Nat) => (quoteF s).length - qq) (0) hst (Nat.zero_le _) ⟨rfl, trivial⟩ ?_
 intro i f w hst hJ ih1
 replace hst : St _ _ ([] ++ [_, _]) _ _ := hst
 replace hJ : i ≤ (quoteF s).length := hJ
 refine Run.slots (sl := [(6, .int .i64 (i : Int))]) ⟨rfl, trivial⟩ ?_
 have hidx : ((quoteF s).getD ((i : Int).toNat) 0).toNat = ((quoteF s).getD i 0).toNat := rfl
 refine SQ <| SR <| MI rfl <| MS rfl <| CN <| Op1.lenS (rest := []) ty9 rfl <| CN <| Op1.lss rfl rfl <| NL <| run_cond_dec rfl (fun g2 => ?_) (fun g2 => ?_)
 · skip
   have hqc := quo_char (s := s) (i := i) (by omega)
   refine run_skip <| SQ <| run_block <| SR <| MS rfl <| MI rfl <| CN <| Op1.indexS ty9 rfl rfl (by omega) (by omega) <| CN <| Op1.lss rfl rfl <| MB rfl <| RunL.splitD (d := 24) rfl (fun g3 => ?_) (fun g3 => ?_)
   · skip
     exfalso
     omega
   refine TK (t := 24) rfl (congrArg Value.bool (decide_eq_false g3)) <| Op1.move (v := str _) rfl <| TK (t := 24) rfl (congrArg Value.bool (decide_eq_false g3)) <| Op1.move (v := .int .i64 _) rfl <| TK (t := 24) rfl (congrArg Value.bool (decide_eq_false g3)) <| Op1.indexS ty9 rfl rfl (by omega) (by omega) <| TK (t := 24) rfl (congrArg Value.bool (decide_eq_false g3)) <| Op1.gtr rfl rfl <| CN <| Op1.pickF (u := .bool _) (congrArg Value.bool (decide_eq_false g3)) rfl <| NL <| run_cond_dec rfl (fun g4 => ?_) (fun g4 => ?_)
   · skip
     exfalso
     omega
   refine run_skip <| run_inBlock <| RG <| MI rfl <| CN <| Op1.addN rfl rfl rfl (wrap_i64 (by omega) (by omega)) <| AI rfl <| NL <| run_inLoop ?_
   exact ih1 (i + 1) _ w ((by omega)) hst ((by omega)) ⟨rfl, rfl, rfl, rfl, trivial⟩ ⟨(congrArg (Value.int .i64) (by omega)), trivial⟩
 refine run_exit (id := 0) rfl <| SR <| CN <| Op1.fieldAddr fld25_0 rfl <| CN <| Op1.load1 (v := .int .i64 _) ty23 rfl rfl (hst.cellL (.head _) rfl) <| CN <| Op1.eql rfl rfl <| MB rfl <| RunL.splitD (d := 33) rfl (fun g5 => ?_) (fun g5 => ?_)
 · skip
   refine TK (t := 33) rfl (congrArg Value.bool (decide_eq_true g5)) <| Op1.move (v := .slice _ _ _) rfl <| TK (t := 33) rfl (congrArg Value.bool (decide_eq_true g5)) <| Op1.lenSl (rest := []) ty22 rfl <| TK (t := 33) rfl (congrArg Value.bool (decide_eq_true g5)) <| Op1.eql rfl rfl <| CN <| Op1.pickT (u := .bool _) (congrArg Value.bool (decide_eq_true g5)) rfl <| MB rfl <| RunL.splitD (d := 38) rfl (fun g6 => ?_) (fun g6 => ?_)
   · skip
     refine TK (t := 38) rfl (congrArg Value.bool (decide_eq_true g6)) <| Op1.move (v := .slice _ _ _) rfl <| TK (t := 38) rfl (congrArg Value.bool (decide_eq_true g6)) <| Op1.indexRs ty22 ty30 ((Res.rs_of_sl (hst.hL _ (.tail _ (.head _))))) rfl rfl (by omega) (by omega) <| TK (t := 38) rfl (congrArg Value.bool (decide_eq_true g6)) <| Op1.loadA (vs := [.int .u8 _, str _, .int .i64 _]) ty30 rfl rfl rfl (Res.rs2_cells (m := 3) ((Res.rs_of_sl (hst.hL _ (.tail _ (.head _))))) _ (flat_seg (g := tokC) (d := tok0) tokC_len _ _ (by omega))) <| TK (t := 38) rfl (congrArg Value.bool (decide_eq_true g6)) <| Op1.move (v := str _) rfl <| TK (t := 38) rfl (congrArg Value.bool (decide_eq_true g6)) (Op1.buildStruct ty30 stf30 (.c (v := .int .u8 _) rfl (h := (.c (v := str _) rfl (h := .nil)))) ?_)
     refine TK (t := 38) rfl (congrArg Value.bool (decide_eq_true g6)) <| Op1.eqlA (xs := [.int .u8 _, str _, .int .i64 _]) (ys := [.int .u8 _, str _, .int .i64 _]) rfl rfl (by kernel_rfl) (EqOk.struct Tryd.underlying30 (by kernel_rfl) (.cons (by decide) (PartOk.one ty5 rfl rfl) (PartOk.one ty5 rfl rfl) (EqOk.int ty5) (.cons (by decide) (PartOk.one ty9 rfl rfl) (PartOk.one ty9 rfl rfl) (EqOk.str ty9) (.cons (by decide) (PartOk.one ty3 rfl rfl) (PartOk.one ty3 rfl rfl) (EqOk.int ty3) .nil)))) <| CN <| Op1.pickT (u := .bool _) (congrArg Value.bool (decide_eq_true g6)) rfl <| MB rfl <| RunL.split (d := 46) rfl (fun g7 => ?_) (fun g7 => ?_)
     · skip
       refine TK (t := 46) rfl (congrArg Value.bool g7) (Op1.call0  ent17 rfl  ((R4lx_awake _ (hst.hD _ (.head _))).mono fun v w hp => ?_))
       obtain ⟨rfl, hp⟩ := hp
       replace hst := hst.keepc hp
       clear hp
       refine CN <| Op1.pickT (u := .bool _) (congrArg Value.bool g7) rfl <| AB rfl <| NL <| run_ret1 Tryd.func10 rfl (TP (v := .bool _) rfl) ?_
       exact ⟨rfl, hst.pure⟩
     exfalso
     simp at g7
   exfalso
   exact g6 rfl
 exfalso
 exact g5 rfl
end Go.SK
