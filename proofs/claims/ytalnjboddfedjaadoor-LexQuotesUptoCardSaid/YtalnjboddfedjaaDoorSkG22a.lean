/-
  Steps of functions, plain law, and walks of functions: what the laws rest on.
-/
import Derived.Test.YtalnjboddfedjaaDoorSkG0b
import Derived.Test.YtalnjboddfedjaaDoorSkG1a
import Derived.Test.YtalnjboddfedjaaDoorSkG12a
set_option linter.unusedVariables false
set_option linter.unusedSimpArgs false
set_option linter.unusedSectionVars false
namespace Go.SK
theorem hexD_val {n : Nat} (h : n < 16) : ((hexD n).toNat : Int) = if n < 10 then 48 + (n : Int) else 87 + n := by
  unfold hexD; split <;> simp <;> omega
end Go.SK
namespace Go.SK
open Go Go.Proofs
open Go.RowKit
theorem R4lx_digit (x : Int) (n : Nat) (hx : x = n) (hn : n < 16) (w : World) : Ret Tryd.prog 42 #[.int .u8 x] w (fun v w' => v = .int .u8 ((hexD n).toNat : Int) ∧ St w NoM [] [] w') := by
 refine Ret.enter (args := [.int .u8 x]) Tryd.func42 rfl rfl rfl ?_
 have hst := St.init w
 refine SR <| AC rfl <| NL <| SQ <| SR <| MC rfl <| CN <| Op1.lss rfl rfl <| NL <| run_cond_dec rfl (fun g1 => ?_) (fun g1 => ?_)
 · skip
   refine SR <| MC rfl <| CN <| Op1.addN rfl rfl rfl (wrap_u8 (by omega) (by omega)) <| AC rfl <| NL <| run_ret1 Tryd.func42 rfl (TP (v := .int .u8 _) rfl) <| ⟨congrArg (Value.int .u8) ?_, hst.pure⟩
   rw [hexD_val hn]
   split <;> omega
 refine run_skip <| SR <| MC rfl <| CN <| Op1.addN rfl rfl rfl (wrap_u8 (by omega) (by omega)) <| CN <| Op1.subN rfl rfl rfl (wrap_u8 (by omega) (by omega)) <| AC rfl <| NL <| run_ret1 Tryd.func42 rfl (TP (v := .int .u8 _) rfl) <| ⟨congrArg (Value.int .u8) ?_, hst.pure⟩
 rw [hexD_val hn]
 split <;> omega
end Go.SK
namespace Go.SK
open Go Go.Proofs
theorem ent42 : Enters Tryd.prog 42 := ⟨Tryd.f42, _, Tryd.func42, by kernel_rfl, rfl⟩
end Go.SK
namespace Go.SK
open Go Go.Proofs
open Go.RowKit
theorem R4lx_rQuote (s : Tx) (w : World) (hl : s.length ≤ 1099511627776) : Ret Tryd.prog 21 #[str s] w (fun v w' => v = str (quoteF s) ∧ St w NoM [] [] w') := by
 refine Ret.enter (args := [str s]) Tryd.func21 rfl rfl rfl ?_
 have hst := St.init w
 refine SR <| AS rfl <| NSR <| AL rfl <| NSR <| ML rfl <| CN (Op1.buildSl (z0 := [.int .u8 0]) hst ty70 ty5 rfl rfl (by kernel_rfl) (.c (v := .int .u8 _) rfl (h := .nil)) fun w b7 hst => ?_)
 replace hst := hst.pushNil 5 1
 refine CN (Op1.append (news := byC 34) hst ty70 ty5 rfl rfl (.here) rfl rfl rfl (cells_of_obj (n := 1) (hst.objL (.tail _ (.head _))) _ rfl) rfl rfl (by omega) fun w ao1 cp2 hst => ?_)
 replace hst := hst.drop (.there (.here))
 refine AL rfl <| NL <| SQ <| SR <| AI rfl <| NL <| run_block <| run_loop <| Run.indW [(0, str _)] ⟨rfl, trivial⟩ (fun (qq : Nat × Option Addr × Nat) => [(3, .slice qq.2.1 (qb s qq.1).length qq.2.2), (4, .int .i64 (qq.1 : Int))]) (fun (qq : Nat × Option Addr × Nat) => [Res.sl qq.2.1 (qb s qq.1).length qq.2.2 5 1 ((qb s qq.1).flatMap byC)]) (fun (qq : Nat × Option Addr × Nat) => qq.1 ≤ s.length) (fun (qq : Nat × Option Addr × Nat) => s.length - qq.1) ((0, ao1, cp2)) hst (Nat.zero_le _) ⟨rfl, rfl, trivial⟩ ?_
 intro ⟨i, aq, cq⟩ f w hst hJ ih3
 replace hst : St _ _ ([Res.sl aq (qb s i).length cq 5 1 ((qb s i).flatMap byC)] ++ []) _ _ := hst
 replace hJ : i ≤ s.length := hJ
 refine Run.slots (sl := [(3, .slice aq (qb s i).length cq), (4, .int .i64 (i : Int))]) ⟨rfl, rfl, trivial⟩ ?_
 have hidx : (s.getD ((i : Int).toNat) 0).toNat = (s.getD i 0).toNat := rfl
 have hql := qb_len s i
 have hc8 := (s.getD i 0).toNat_lt
 refine SQ <| SR <| MI rfl <| MS rfl <| CN <| Op1.lenS (rest := []) ty9 rfl <| CN <| Op1.lss rfl rfl <| NL <| run_cond_dec rfl (fun g4 => ?_) (fun g4 => ?_)
 · skip
   refine run_skip <| SQ <| run_block <| SR <| MS rfl <| MI rfl <| CN <| Op1.indexS ty9 rfl rfl (by omega) (by omega) <| AC rfl <| NL <| SQ <| SR <| MC rfl <| CN (Op1.lss rfl rfl ?_)
   refine MB rfl <| RunL.splitD (d := 20) rfl (fun g5 => ?_) (fun g5 => ?_)
   · skip
     refine OM (t := 20) rfl (congrArg Value.bool (decide_eq_true g5)) rfl <| OM (t := 20) rfl (congrArg Value.bool (decide_eq_true g5)) rfl <| CN <| Op1.pickT (u := .bool _) (congrArg Value.bool (decide_eq_true g5)) rfl <| NL <| run_cond_true (congrArg Value.bool (rfl : true = _)) <| SR <| ML rfl <| MC rfl ?_
     first | refine CN (Op1.quoN rfl rfl (by omega) (by omega) rfl (wrap_u8 (by omega) (by omega)) ?_) | refine CN (Op1.quo rfl rfl (by omega) ?_)
     refine CN <| Op1.call1 (v1 := .int .u8 _) ent42 rfl rfl <| Ret.det (R4lx_digit _ ((s.getD i 0).toNat / 16) (by omega) (by omega) _) hst fun w hst => MC rfl ?_
     first | refine CN (Op1.remN rfl rfl (by omega) (by omega) rfl ?_) | refine CN (Op1.rem rfl rfl (by omega) ?_)
     refine CN <| Op1.call1 (v1 := .int .u8 _) ent42 rfl rfl <| Ret.det (R4lx_digit _ ((s.getD i 0).toNat % 16) (by omega) (by omega) _) hst fun w hst => CN (Op1.buildSl (z0 := [.int .u8 0, .int .u8 0, .int .u8 0, .int .u8 0]) hst ty70 ty5 rfl rfl (by kernel_rfl) (.c (v := .int .u8 _) rfl (h := (.c (v := .int .u8 _) rfl (h := (.c (v := .int .u8 _) rfl (h := (.c (v := .int .u8 _) rfl (h := .nil)))))))) fun w b31 hst => ?_)
     refine CN (Op1.append (news := [(92 : UInt8), 120, hexD ((s.getD i 0).toNat / 16), hexD ((s.getD i 0).toNat % 16)].flatMap byC) hst ty70 ty5 rfl rfl (.there (.here)) rfl rfl rfl (cells_of_obj (n := 4) (hst.objL (.head _)) _ rfl) rfl rfl (by omega) fun w ao6 cp7 hst => ?_)
     replace hst := hst.drop (.there (.here))
     refine AL rfl <| NL <| run_exit (id := 1) rfl <| Run.forget [(0, str _), (3, .slice _ _ _), (4, .int .i64 _)] ⟨rfl, rfl, rfl, trivial⟩ fun f => RG <| MI rfl <| CN <| Op1.addN rfl rfl rfl (wrap_i64 (by omega) (by omega)) <| AI rfl <| NL <| run_inLoop ?_
     have hqs := qb_step (s := s) (i := i) (by omega) (quoC_hex (by omega))
     exact ih3 ((i + 1, ao6, cp7)) _ w ((by (try dsimp only); omega)) (by (try dsimp only); rw [hqs, List.length_append, List.flatMap_append]; exact hst) (by (try dsimp only); omega) ⟨rfl, trivial⟩ ⟨(by (try dsimp only); rw [hqs, List.length_append]; rfl), (congrArg (Value.int .i64) (by (try dsimp only); omega)), trivial⟩
   refine TK (t := 20) rfl (congrArg Value.bool (decide_eq_false g5)) <| Op1.move (v := .int .u8 _) rfl <| TK (t := 20) rfl (congrArg Value.bool (decide_eq_false g5)) <| Op1.gtr rfl rfl <| CN <| Op1.pickF (u := .bool _) (congrArg Value.bool (decide_eq_false g5)) rfl <| NL <| run_cond_dec rfl (fun g8 => ?_) (fun g8 => ?_)
   · skip
     refine SR <| ML rfl <| MC rfl ?_
     first | refine CN (Op1.quoN rfl rfl (by omega) (by omega) rfl (wrap_u8 (by omega) (by omega)) ?_) | refine CN (Op1.quo rfl rfl (by omega) ?_)
     refine CN <| Op1.call1 (v1 := .int .u8 _) ent42 rfl rfl <| Ret.det (R4lx_digit _ ((s.getD i 0).toNat / 16) (by omega) (by omega) _) hst fun w hst => MC rfl ?_
     first | refine CN (Op1.remN rfl rfl (by omega) (by omega) rfl ?_) | refine CN (Op1.rem rfl rfl (by omega) ?_)
     refine CN <| Op1.call1 (v1 := .int .u8 _) ent42 rfl rfl <| Ret.det (R4lx_digit _ ((s.getD i 0).toNat % 16) (by omega) (by omega) _) hst fun w hst => CN (Op1.buildSl (z0 := [.int .u8 0, .int .u8 0, .int .u8 0, .int .u8 0]) hst ty70 ty5 rfl rfl (by kernel_rfl) (.c (v := .int .u8 _) rfl (h := (.c (v := .int .u8 _) rfl (h := (.c (v := .int .u8 _) rfl (h := (.c (v := .int .u8 _) rfl (h := .nil)))))))) fun w b31 hst => ?_)
     refine CN (Op1.append (news := [(92 : UInt8), 120, hexD ((s.getD i 0).toNat / 16), hexD ((s.getD i 0).toNat % 16)].flatMap byC) hst ty70 ty5 rfl rfl (.there (.here)) rfl rfl rfl (cells_of_obj (n := 4) (hst.objL (.head _)) _ rfl) rfl rfl (by omega) fun w ao9 cp10 hst => ?_)
     replace hst := hst.drop (.there (.here))
     refine AL rfl <| NL <| run_exit (id := 1) rfl <| Run.forget [(0, str _), (3, .slice _ _ _), (4, .int .i64 _)] ⟨rfl, rfl, rfl, trivial⟩ fun f => RG <| MI rfl <| CN <| Op1.addN rfl rfl rfl (wrap_i64 (by omega) (by omega)) <| AI rfl <| NL <| run_inLoop ?_
     have hqs := qb_step (s := s) (i := i) (by omega) (quoC_hex (by omega))
     exact ih3 ((i + 1, ao9, cp10)) _ w ((by (try dsimp only); omega)) (by (try dsimp only); rw [hqs, List.length_append, List.flatMap_append]; exact hst) (by (try dsimp only); omega) ⟨rfl, trivial⟩ ⟨(by (try dsimp only); rw [hqs, List.length_append]; rfl), (congrArg (Value.int .i64) (by (try dsimp only); omega)), trivial⟩
   refine run_skip <| SQ <| SR <| MC rfl <| CN <| Op1.eql rfl rfl <| MB rfl <| RunL.splitD (d := 35) rfl (fun g11 => ?_) (fun g11 => ?_)
   · skip
     refine OM (t := 35) rfl (congrArg Value.bool (decide_eq_true g11)) rfl <| OM (t := 35) rfl (congrArg Value.bool (decide_eq_true g11)) rfl <| CN <| Op1.pickT (u := .bool _) (congrArg Value.bool (decide_eq_true g11)) rfl <| NL <| run_cond_true (congrArg Value.bool (rfl : true = _)) <| RG <| ML rfl <| CN (Op1.buildSl (z0 := [.int .u8 0]) hst ty70 ty5 rfl rfl (by kernel_rfl) (.c (v := .int .u8 _) rfl (h := .nil)) fun w b40 hst => ?_)
     refine CN (Op1.append (news := byC 92) hst ty70 ty5 rfl rfl (.there (.here)) rfl rfl rfl (cells_of_obj (n := 1) (hst.objL (.head _)) _ rfl) rfl rfl (by omega) fun w ao12 cp13 hst => ?_)
     replace hst := hst.drop (.there (.here))
     refine AL rfl <| NL <| Run.forget [(0, str _), (3, .slice _ _ _), (4, .int .i64 _), (5, .int .u8 _)] ⟨rfl, rfl, rfl, rfl, trivial⟩ fun f => RG <| ML rfl <| MC rfl <| CN (Op1.buildSl (z0 := [.int .u8 0]) hst ty70 ty5 rfl rfl (by kernel_rfl) (.c (v := .int .u8 _) rfl (h := .nil)) fun w b44 hst => ?_)
     refine CN (Op1.append (news := byC (s.getD ((i : Int).toNat) 0)) hst ty70 ty5 rfl rfl (.there (.here)) rfl rfl rfl (cells_of_obj (n := 1) (hst.objL (.head _)) _ rfl) rfl rfl (by omega) fun w ao14 cp15 hst => ?_)
     replace hst := hst.drop (.there (.here))
     refine AL rfl <| NL <| run_inBlock <| RG <| MI rfl <| CN <| Op1.addN rfl rfl rfl (wrap_i64 (by omega) (by omega)) <| AI rfl <| NL <| run_inLoop ?_
     have hqs := qb_step (s := s) (i := i) (by omega) (quoC_esc (by omega) (by omega))
     exact ih3 ((i + 1, ao14, cp15)) _ w ((by (try dsimp only); omega)) (by (try dsimp only); rw [hqs, List.length_append, List.flatMap_append]; rw [List.append_assoc] at hst; exact hst) (by (try dsimp only); omega) ⟨rfl, trivial⟩ ⟨(by (try dsimp only); rw [hqs, List.length_append]; rfl), (congrArg (Value.int .i64) (by (try dsimp only); omega)), trivial⟩
   refine TK (t := 35) rfl (congrArg Value.bool (decide_eq_false g11)) <| Op1.move (v := .int .u8 _) rfl <| TK (t := 35) rfl (congrArg Value.bool (decide_eq_false g11)) <| Op1.eql rfl rfl <| CN <| Op1.pickF (u := .bool _) (congrArg Value.bool (decide_eq_false g11)) rfl <| NL <| Run.forget [(0, str _), (3, .slice _ _ _), (4, .int .i64 _), (5, .int .u8 _), (38, .bool _)] ⟨rfl, rfl, rfl, rfl, rfl, trivial⟩ fun f => run_cond_dec rfl (fun g16 => ?_) (fun g16 => ?_)
   · skip
     refine RG <| ML rfl <| CN (Op1.buildSl (z0 := [.int .u8 0]) hst ty70 ty5 rfl rfl (by kernel_rfl) (.c (v := .int .u8 _) rfl (h := .nil)) fun w b40 hst => ?_)
     refine CN (Op1.append (news := byC 92) hst ty70 ty5 rfl rfl (.there (.here)) rfl rfl rfl (cells_of_obj (n := 1) (hst.objL (.head _)) _ rfl) rfl rfl (by omega) fun w ao17 cp18 hst => ?_)
     replace hst := hst.drop (.there (.here))
     refine AL rfl <| NR <| ML rfl <| MC rfl <| CN (Op1.buildSl (z0 := [.int .u8 0]) hst ty70 ty5 rfl rfl (by kernel_rfl) (.c (v := .int .u8 _) rfl (h := .nil)) fun w b44 hst => ?_)
     refine CN (Op1.append (news := byC (s.getD ((i : Int).toNat) 0)) hst ty70 ty5 rfl rfl (.there (.here)) rfl rfl rfl (cells_of_obj (n := 1) (hst.objL (.head _)) _ rfl) rfl rfl (by omega) fun w ao19 cp20 hst => ?_)
     replace hst := hst.drop (.there (.here))
     refine AL rfl <| NL <| run_inBlock <| RG <| MI rfl <| CN <| Op1.addN rfl rfl rfl (wrap_i64 (by omega) (by omega)) <| AI rfl <| NL <| run_inLoop ?_
     have hqs := qb_step (s := s) (i := i) (by omega) (quoC_esc (by omega) (by omega))
     exact ih3 ((i + 1, ao19, cp20)) _ w ((by (try dsimp only); omega)) (by (try dsimp only); rw [hqs, List.length_append, List.flatMap_append]; rw [List.append_assoc] at hst; exact hst) (by (try dsimp only); omega) ⟨rfl, trivial⟩ ⟨(by (try dsimp only); rw [hqs, List.length_append]; rfl), (congrArg (Value.int .i64) (by (try dsimp only); omega)), trivial⟩
   refine run_skip <| RG <| ML rfl <| MC rfl <| CN (Op1.buildSl (z0 := [.int .u8 0]) hst ty70 ty5 rfl rfl (by kernel_rfl) (.c (v := .int .u8 _) rfl (h := .nil)) fun w b44 hst => ?_)
   refine CN (Op1.append (news := byC (s.getD ((i : Int).toNat) 0)) hst ty70 ty5 rfl rfl (.there (.here)) rfl rfl rfl (cells_of_obj (n := 1) (hst.objL (.head _)) _ rfl) rfl rfl (by omega) fun w ao21 cp22 hst => ?_)
   replace hst := hst.drop (.there (.here))
   refine AL rfl <| NL <| run_inBlock <| RG <| MI rfl <| CN <| Op1.addN rfl rfl rfl (wrap_i64 (by omega) (by omega)) <| AI rfl <| NL <| run_inLoop ?_
   have hqs := qb_step (s := s) (i := i) (by omega) (quoC_one (by omega) (by omega))
   exact ih3 ((i + 1, ao21, cp22)) _ w ((by (try dsimp only); omega)) (by (try dsimp only); rw [hqs, List.length_append, List.flatMap_append]; exact hst) (by (try dsimp only); omega) ⟨rfl, trivial⟩ ⟨(by (try dsimp only); rw [hqs, List.length_append]; rfl), (congrArg (Value.int .i64) (by (try dsimp only); omega)), trivial⟩
 refine run_exit (id := 0) rfl <| SR <| ML rfl <| CN (Op1.buildSl (z0 := [.int .u8 0]) hst ty70 ty5 rfl rfl (by kernel_rfl) (.c (v := .int .u8 _) rfl (h := .nil)) fun w b47 hst => ?_)
 refine CN (Op1.append (news := byC 34) hst ty70 ty5 rfl rfl (.there (.here)) rfl rfl rfl (cells_of_obj (n := 1) (hst.objL (.head _)) _ rfl) rfl rfl (by omega) fun w ao23 cp24 hst => ?_)
 replace hst := hst.drop (.there (.here))
 refine AL rfl <| NSR <| ML rfl <| CN <| Op1.bytesStr2 (l := quoteF s) ty70 ty5 ty9 rfl (by rw [← qb_end (i := i) (by omega), List.length_append]; rfl) (Res.rs_of_sl (hst.hL _ (.head _))) (by rw [← qb_end (i := i) (by omega), List.flatMap_append]; rfl) <| AS rfl <| NL <| run_ret1 Tryd.func21 rfl (TP (v := str _) rfl) ?_
 exact ⟨rfl, hst.pure⟩
end Go.SK
namespace Go.SK
open Go Go.Proofs
theorem ent21 : Enters Tryd.prog 21 := ⟨Tryd.f21, _, Tryd.func21, by kernel_rfl, rfl⟩
end Go.SK
