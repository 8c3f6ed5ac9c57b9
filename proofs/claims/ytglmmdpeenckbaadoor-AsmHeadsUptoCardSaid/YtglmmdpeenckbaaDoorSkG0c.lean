/-
  Steps of functions, plain law, and walks of functions: what the laws rest on.
-/
import Derived.Test.YtglmmdpeenckbaaDoorSkG0b
set_option linter.unusedVariables false
set_option linter.unusedSimpArgs false
set_option linter.unusedSectionVars false
namespace Go.SK
open Go Go.Proofs
open Go.RowKit
theorem R6lx_rToken (s : Tx) (x : Int) (a : Nat) (hx : x = a) (ha : a < s.length) (w : World) (hl : s.length ≤ 1099511627776) : Ret Tryd.prog 26 #[str s, .int .i64 x] w (fun v w' => (∃ kd t m, tokF (s.drop a) = .ok (kd, t, m) ∧ v = .tuple #[.agg #[.int .u8 kd, str t, .int .i64 (a : Int)], .int .i64 ((m : Nat) : Int), .int .i64 0] ∧ St w NoM [] [] w') ∨ (∃ e kd t m, tokF (s.drop a) = .error e ∧ e ≠ 0 ∧ v = .tuple #[.agg #[.int .u8 kd, str t, .int .i64 0], .int .i64 m, .int .i64 e] ∧ St w NoM [] [] w')) := by
 refine Ret.enter (args := [str s, .int .i64 x]) Tryd.func26 rfl rfl rfl ?_
 have hst := St.init w
 subst hx
 have hidx : (s.getD ((a : Int).toNat) 0).toNat = (s.getD a 0).toNat := rfl
 have hru := runF_le (s.drop (a + 1))
 rw [List.length_drop] at hru
 refine SR <| CN <| Op1.alloc hst ty43 fun w b4 hst => AI rfl <| AI rfl <| NSR <| MS rfl <| MI rfl <| CN <| Op1.indexS ty9 rfl rfl (by omega) (by omega) <| AC rfl <| NL <| SQ <| SQ ?_
 refine RG <| MC rfl <| CN <| Op1.call1 (v1 := .int .u8 _) ent45 rfl rfl <| Ret.det (R6lx_Letter _ _) hst fun w hst => NL <| run_cond_split rfl (fun g1 => ?_) (fun g1 => ?_)
 · skip
   refine SR <| MS rfl <| MI rfl <| CN <| Op1.call2 (v1 := str _) (v2 := .int .i64 _) ent46 rfl rfl rfl <| Ret.det (R6lx_Run s _ a rfl (by omega) _ (by omega)) hst fun w hst => AS rfl <| NSR <| MS rfl <| MI rfl <| CN (Op1.buildStruct ty43 stf43 (.c (v := .int .u8 _) rfl (h := (.c (v := str _) rfl (h := (.c (v := .int .i64 _) rfl (h := .nil)))))) ?_)
   refine MS rfl <| CN <| Op1.lenS (rest := []) ty9 rfl <| CN (SO (v := .agg #[.int .u8 _, str _, .int .i64 _]) hst ty43 rfl rfl (.here) fun w hst => ?_)
   refine AI rfl <| AI rfl <| NL <| run_ret3 Tryd.func26 rfl (RV.cellA (vs := [.int .u8 _, str _, .int .i64 _]) rfl ty43 rfl rfl (cells_of_obj (n := 3) (hst.objL (.head _)) _ rfl)) (TP (v := .int .i64 _) rfl) (TP (v := .int .i64 _) rfl) ?_
   exact .inl ⟨_, _, _, tok_word g1, rfl, hst.pure⟩
 refine run_skip <| SQ <| SR <| MC rfl <| CN <| Op1.eql rfl rfl <| NL <| run_cond_dec rfl (fun g2 => ?_) (fun g2 => ?_)
 · skip
   refine SR <| MS rfl <| MI rfl <| CN <| Op1.addN rfl rfl rfl (wrap_i64 (by omega) (by omega)) <| CN <| Op1.call2 (v1 := str _) (v2 := .int .i64 _) ent46 rfl rfl rfl <| Ret.det (R6lx_Run s _ (a + 1) (by omega) (by omega) _ (by omega)) hst fun w hst => AS rfl <| NSR <| MS rfl <| CN <| Op1.call1 (v1 := str _) ent27 rfl rfl <| Ret.det (R6lx_Plain _ _ (by omega)) hst fun w hst => CN <| Op1.move (v := .tuple #[.int .u64 _, .bool _]) rfl <| CN <| Op1.extract (v := .int .u64 _) rfl rfl <| CN (Op1.extract (v := .bool _) rfl rfl ?_)
   refine CN <| Op1.assign (v := .int .u64 _) rfl <| AB rfl <| NL <| Run.forget [(1, .int .i64 _), (4, .pointer (some ⟨_, _, none⟩)), (9, str _), (11, .bool _)] ⟨rfl, rfl, rfl, rfl, trivial⟩ fun f => SQ <| SR <| MB rfl <| CN <| Op1.not rfl <| NL <| run_cond_split rfl (fun g3 => ?_) (fun g3 => ?_)
   · skip
     refine SR <| CN (Op1.buildStruct ty43 stf43 .nil ?_)
     refine CN (SO (v := .agg #[.int .u8 _, str _, .int .i64 _]) hst ty43 rfl rfl (.here) fun w hst => ?_)
     refine AI rfl <| AI rfl <| NL <| run_ret3 Tryd.func26 rfl (RV.cellA (vs := [.int .u8 _, str _, .int .i64 _]) rfl ty43 rfl rfl (cells_of_obj (n := 3) (hst.objL (.head _)) _ rfl)) (TP (v := .int .i64 _) rfl) (TP (v := .int .i64 _) rfl) ?_
     exact .inr ⟨_, _, _, _, tok_idNo (by omega) (not_t g3), by decide, rfl, hst.pure⟩
   refine run_skip <| SR <| MS rfl <| MI rfl <| CN (Op1.buildStruct ty43 stf43 (.c (v := .int .u8 _) rfl (h := (.c (v := str _) rfl (h := (.c (v := .int .i64 _) rfl (h := .nil)))))) ?_)
   refine MS rfl <| CN <| Op1.lenS (rest := []) ty9 rfl <| CN <| Op1.addN rfl rfl rfl (wrap_i64 (by omega) (by omega)) <| CN (SO (v := .agg #[.int .u8 _, str _, .int .i64 _]) hst ty43 rfl rfl (.here) fun w hst => ?_)
   refine AI rfl <| AI rfl <| NL <| run_ret3 Tryd.func26 rfl (RV.cellA (vs := [.int .u8 _, str _, .int .i64 _]) rfl ty43 rfl rfl (cells_of_obj (n := 3) (hst.objL (.head _)) _ rfl)) (TP (v := .int .i64 _) rfl) (TP (v := .int .i64 _) rfl) ?_
   exact .inl ⟨_, _, _, tok_idOk (by omega) (not_f g3), rfl, hst.pure⟩
 refine run_skip <| SQ <| SR <| MC rfl <| CN <| Op1.call1 (v1 := .int .u8 _) ent47 rfl rfl <| Ret.det (R6lx_Digit _ _) hst fun w hst => MB rfl <| RunL.split (d := 52) rfl (fun g4 => ?_) (fun g4 => ?_)
 · skip
   refine OM (t := 52) rfl (congrArg Value.bool g4) rfl <| OM (t := 52) rfl (congrArg Value.bool g4) rfl <| CN <| Op1.pickT (u := .bool _) (congrArg Value.bool g4) rfl <| NL <| run_cond_true (congrArg Value.bool (rfl : true = _)) <| SR <| MS rfl <| MI rfl <| MI rfl <| CN <| Op1.addN rfl rfl rfl (wrap_i64 (by omega) (by omega)) <| MS rfl <| MI rfl <| CN <| Op1.addN rfl rfl rfl (wrap_i64 (by omega) (by omega)) <| CN <| Op1.call2 (v1 := str _) (v2 := .int .i64 _) ent46 rfl rfl rfl <| Ret.det (R6lx_Run s _ (a + 1) (by omega) (by omega) _ (by omega)) hst fun w hst => ?_
   refine CN <| Op1.lenS (rest := []) ty9 rfl <| CN <| Op1.addN rfl rfl rfl (wrap_i64 (by omega) (by omega)) <| CN <| Op1.sliceMid ty9 rfl rfl rfl (by omega) (by omega) (by omega) <| AS rfl <| NL <| Run.forget [(1, .int .i64 _), (4, .pointer (some ⟨_, _, none⟩)), (12, str _)] ⟨rfl, rfl, rfl, trivial⟩ fun f => SR <| MS rfl <| CN <| Op1.call1 (v1 := str _) ent13 rfl rfl <| Ret.det (R6lx_Number _ _ (by first | omega | (simp only [List.length_drop, List.length_take, List.length_append, List.length_cons, List.length_nil]; omega))) hst fun w hst => CN <| Op1.move (v := .tuple #[.int .u32 _, .int .i64 _]) rfl <| CN <| Op1.extract (v := .int .u32 _) rfl rfl <| CN <| Op1.extract (v := .int .i64 _) rfl rfl <| AU rfl <| AI rfl ?_
   refine NL <| SQ <| SR <| MI rfl <| CN <| Op1.neq rfl rfl <| NL <| run_cond_dec rfl (fun g5 => ?_) (fun g5 => ?_)
   · skip
     have hta : (s.drop a).take (1 + (runF (s.drop (a + 1))).length) = (s.drop ((a : Int).toNat)).take (((a : Int) + 1 + ((runF (s.drop (a + 1))).length : Int)).toNat - (a : Int).toNat) := by congr 1; omega
     refine SR <| CN (Op1.buildStruct ty43 stf43 .nil ?_)
     refine CN (SO (v := .agg #[.int .u8 _, str _, .int .i64 _]) hst ty43 rfl rfl (.here) fun w hst => ?_)
     refine AI rfl <| AI rfl <| NL <| run_ret3 Tryd.func26 rfl (RV.cellA (vs := [.int .u8 _, str _, .int .i64 _]) rfl ty43 rfl rfl (cells_of_obj (n := 3) (hst.objL (.head _)) _ rfl)) (TP (v := .int .i64 _) rfl) (TP (v := .int .i64 _) rfl) ?_
     exact .inr ⟨_, _, _, _, tok_numNo (.inl g4) hta g5, by decide, rfl, hst.pure⟩
   have hta : (s.drop a).take (1 + (runF (s.drop (a + 1))).length) = (s.drop ((a : Int).toNat)).take (((a : Int) + 1 + ((runF (s.drop (a + 1))).length : Int)).toNat - (a : Int).toNat) := by congr 1; omega
   refine run_skip <| SR <| MS rfl <| MI rfl <| CN (Op1.buildStruct ty43 stf43 (.c (v := .int .u8 _) rfl (h := (.c (v := str _) rfl (h := (.c (v := .int .i64 _) rfl (h := .nil)))))) ?_)
   refine MS rfl <| CN <| Op1.lenS (rest := []) ty9 rfl <| CN (SO (v := .agg #[.int .u8 _, str _, .int .i64 _]) hst ty43 rfl rfl (.here) fun w hst => ?_)
   refine AI rfl <| AI rfl <| NL <| run_ret3 Tryd.func26 rfl (RV.cellA (vs := [.int .u8 _, str _, .int .i64 _]) rfl ty43 rfl rfl (cells_of_obj (n := 3) (hst.objL (.head _)) _ rfl)) (TP (v := .int .i64 _) rfl) (TP (v := .int .i64 _) rfl) ?_
   exact .inl ⟨_, _, _, tok_numOk (.inl g4) hta (by omega), rfl, hst.pure⟩
 refine TK (t := 52) rfl (congrArg Value.bool g4) <| Op1.move (v := .int .u8 _) rfl <| TK (t := 52) rfl (congrArg Value.bool g4) <| Op1.eql rfl rfl <| CN <| Op1.pickF (u := .bool _) (congrArg Value.bool g4) rfl <| NL <| run_cond_dec rfl (fun g6 => ?_) (fun g6 => ?_)
 · skip
   refine SR <| MS rfl <| MI rfl <| MI rfl <| CN <| Op1.addN rfl rfl rfl (wrap_i64 (by omega) (by omega)) <| MS rfl <| MI rfl <| CN <| Op1.addN rfl rfl rfl (wrap_i64 (by omega) (by omega)) <| CN <| Op1.call2 (v1 := str _) (v2 := .int .i64 _) ent46 rfl rfl rfl <| Ret.det (R6lx_Run s _ (a + 1) (by omega) (by omega) _ (by omega)) hst fun w hst => CN <| Op1.lenS (rest := []) ty9 rfl <| CN <| Op1.addN rfl rfl rfl (wrap_i64 (by omega) (by omega)) <| CN <| Op1.sliceMid ty9 rfl rfl rfl (by omega) (by omega) (by omega) <| AS rfl <| NL ?_
   refine Run.forget [(1, .int .i64 _), (4, .pointer (some ⟨_, _, none⟩)), (12, str _)] ⟨rfl, rfl, rfl, trivial⟩ fun f => SR <| MS rfl <| CN <| Op1.call1 (v1 := str _) ent13 rfl rfl <| Ret.det (R6lx_Number _ _ (by first | omega | (simp only [List.length_drop, List.length_take, List.length_append, List.length_cons, List.length_nil]; omega))) hst fun w hst => CN <| Op1.move (v := .tuple #[.int .u32 _, .int .i64 _]) rfl <| CN <| Op1.extract (v := .int .u32 _) rfl rfl <| CN <| Op1.extract (v := .int .i64 _) rfl rfl <| AU rfl <| AI rfl <| NL <| SQ <| SR <| MI rfl ?_
   refine CN <| Op1.neq rfl rfl <| NL <| run_cond_dec rfl (fun g7 => ?_) (fun g7 => ?_)
   · skip
     have hta : (s.drop a).take (1 + (runF (s.drop (a + 1))).length) = (s.drop ((a : Int).toNat)).take (((a : Int) + 1 + ((runF (s.drop (a + 1))).length : Int)).toNat - (a : Int).toNat) := by congr 1; omega
     refine SR <| CN (Op1.buildStruct ty43 stf43 .nil ?_)
     refine CN (SO (v := .agg #[.int .u8 _, str _, .int .i64 _]) hst ty43 rfl rfl (.here) fun w hst => ?_)
     refine AI rfl <| AI rfl <| NL <| run_ret3 Tryd.func26 rfl (RV.cellA (vs := [.int .u8 _, str _, .int .i64 _]) rfl ty43 rfl rfl (cells_of_obj (n := 3) (hst.objL (.head _)) _ rfl)) (TP (v := .int .i64 _) rfl) (TP (v := .int .i64 _) rfl) ?_
     exact .inr ⟨_, _, _, _, tok_numNo (.inr (by omega)) hta g7, by decide, rfl, hst.pure⟩
   have hta : (s.drop a).take (1 + (runF (s.drop (a + 1))).length) = (s.drop ((a : Int).toNat)).take (((a : Int) + 1 + ((runF (s.drop (a + 1))).length : Int)).toNat - (a : Int).toNat) := by congr 1; omega
   refine run_skip <| SR <| MS rfl <| MI rfl <| CN (Op1.buildStruct ty43 stf43 (.c (v := .int .u8 _) rfl (h := (.c (v := str _) rfl (h := (.c (v := .int .i64 _) rfl (h := .nil)))))) ?_)
   refine MS rfl <| CN <| Op1.lenS (rest := []) ty9 rfl <| CN (SO (v := .agg #[.int .u8 _, str _, .int .i64 _]) hst ty43 rfl rfl (.here) fun w hst => ?_)
   refine AI rfl <| AI rfl <| NL <| run_ret3 Tryd.func26 rfl (RV.cellA (vs := [.int .u8 _, str _, .int .i64 _]) rfl ty43 rfl rfl (cells_of_obj (n := 3) (hst.objL (.head _)) _ rfl)) (TP (v := .int .i64 _) rfl) (TP (v := .int .i64 _) rfl) ?_
   exact .inl ⟨_, _, _, tok_numOk (.inr (by omega)) hta (by omega), rfl, hst.pure⟩
 refine run_skip <| SQ <| SR <| MC rfl <| CN <| Op1.eql rfl rfl <| NL <| Run.forget [(0, str _), (1, .int .i64 _), (4, .pointer (some ⟨_, _, none⟩)), (7, .int .u8 _), (81, .bool _)] ⟨rfl, rfl, rfl, rfl, rfl, trivial⟩ fun f => run_cond_dec rfl (fun g8 => ?_) (fun g8 => ?_)
 · skip
   refine SR <| MS rfl <| MI rfl <| CN <| Op1.call2 (v1 := str _) (v2 := .int .i64 _) ent48 rfl rfl rfl <| Ret.det (R6lx_Quoted s _ a rfl (by omega) _ (by omega)) hst fun w hst => CN <| Op1.move (v := .tuple #[str _, .int .i64 _]) rfl <| CN <| Op1.extract (v := str _) rfl rfl <| CN <| Op1.extract (v := .int .i64 _) rfl rfl <| AS rfl <| AI rfl <| NL <| SQ <| SR <| MI rfl ?_
   refine CN <| Op1.eql rfl rfl <| NL <| run_cond_dec rfl (fun g9 => ?_) (fun g9 => ?_)
   · skip
     refine SR <| CN (Op1.buildStruct ty43 stf43 .nil ?_)
     refine CN (SO (v := .agg #[.int .u8 _, str _, .int .i64 _]) hst ty43 rfl rfl (.here) fun w hst => ?_)
     refine AI rfl <| AI rfl <| NL <| run_ret3 Tryd.func26 rfl (RV.cellA (vs := [.int .u8 _, str _, .int .i64 _]) rfl ty43 rfl rfl (cells_of_obj (n := 3) (hst.objL (.head _)) _ rfl)) (TP (v := .int .i64 _) rfl) (TP (v := .int .i64 _) rfl) ?_
     exact .inr ⟨_, _, _, _, tok_strNo (by omega) (by omega), by decide, rfl, hst.pure⟩
   refine run_skip <| SR <| MS rfl <| MI rfl <| CN (Op1.buildStruct ty43 stf43 (.c (v := .int .u8 _) rfl (h := (.c (v := str _) rfl (h := (.c (v := .int .i64 _) rfl (h := .nil)))))) ?_)
   refine MI rfl <| CN (SO (v := .agg #[.int .u8 _, str _, .int .i64 _]) hst ty43 rfl rfl (.here) fun w hst => ?_)
   refine AI rfl <| AI rfl <| NL <| run_ret3 Tryd.func26 rfl (RV.cellA (vs := [.int .u8 _, str _, .int .i64 _]) rfl ty43 rfl rfl (cells_of_obj (n := 3) (hst.objL (.head _)) _ rfl)) (TP (v := .int .i64 _) rfl) (TP (v := .int .i64 _) rfl) ?_
   exact .inl ⟨_, _, _, tok_strOk (by omega) (by omega), rfl, hst.pure⟩
 refine run_skip <| SQ <| SR <| MC rfl <| CN <| Op1.eql rfl rfl <| NL <| run_cond_dec rfl (fun g10 => ?_) (fun g10 => ?_)
 · skip
   refine SR <| MI rfl <| CN (Op1.buildStruct ty43 stf43 (.c (v := .int .u8 _) rfl (h := (.c (v := str _) rfl (h := (.c (v := .int .i64 _) rfl (h := .nil)))))) ?_)
   refine CN (SO (v := .agg #[.int .u8 _, str _, .int .i64 _]) hst ty43 rfl rfl (.here) fun w hst => ?_)
   refine AI rfl <| AI rfl <| NL <| run_ret3 Tryd.func26 rfl (RV.cellA (vs := [.int .u8 _, str _, .int .i64 _]) rfl ty43 rfl rfl (cells_of_obj (n := 3) (hst.objL (.head _)) _ rfl)) (TP (v := .int .i64 _) rfl) (TP (v := .int .i64 _) rfl) ?_
   exact .inl ⟨_, _, _, tok_eq (by omega), rfl, hst.pure⟩
 refine run_skip <| SR <| CN (Op1.buildStruct ty43 stf43 .nil ?_)
 refine CN (SO (v := .agg #[.int .u8 _, str _, .int .i64 _]) hst ty43 rfl rfl (.here) fun w hst => ?_)
 refine AI rfl <| AI rfl <| NL <| run_ret3 Tryd.func26 rfl (RV.cellA (vs := [.int .u8 _, str _, .int .i64 _]) rfl ty43 rfl rfl (cells_of_obj (n := 3) (hst.objL (.head _)) _ rfl)) (TP (v := .int .i64 _) rfl) (TP (v := .int .i64 _) rfl) ?_
 exact .inr ⟨_, _, _, _, tok_bad (f_no g1) (by omega) (f_no g4) (by omega) (by omega) (by omega), by decide, rfl, hst.pure⟩
theorem R6lx_token (s : Tx) (h0 : 0 < s.length) (w : World) (hG : LxG.holds w) (hl : s.length ≤ 1099511627776) : Ret Tryd.prog 50 #[str s] w (fun v w' => (∃ kd t m, tokF s = .ok (kd, t, m) ∧ v = .tuple #[.agg #[.int .u8 kd, str t, .int .i64 0], .int .i64 ((m : Nat) : Int), .int .i64 0] ∧ St w NoM [] [] w') ∨ (∃ e kd t m, tokF s = .error e ∧ e ≠ 0 ∧ v = .tuple #[.agg #[.int .u8 kd, str t, .int .i64 0], .int .i64 m, .int .i64 e] ∧ St w NoM [] [] w')) := by
 refine Ret.enter (args := [str s]) Tryd.func50 rfl rfl rfl ?_
 have hst : St w NoM [] [LxG] w := St.init_Ds (by simp only [List.forall_mem_cons]; exact ⟨hG, fun _ h => absurd h List.not_mem_nil⟩)
 have hidx : (s.getD ((0 : Int).toNat) 0).toNat = (s.getD 0 0).toNat := rfl
 have hru := runF_le (s.drop (0 + 1))
 rw [List.length_drop] at hru
 have hru1 := runF_le (s.drop ((1 : Int).toNat))
 rw [List.length_drop] at hru1
 have h1t : (1 : Int).toNat = 1 := rfl
 have hqq : (quoP (quoA s 1)).2 = (quoP (quoA s (0 + 1))).2 := rfl
 have hrr : (runF (s.drop ((1 : Int).toNat))).length = (runF (s.drop (0 + 1))).length := rfl
 refine SR <| CN <| Op1.alloc hst ty43 fun w b2 hst => AI rfl <| AI rfl <| NSR <| MS rfl <| CN <| Op1.indexS ty9 rfl rfl (by omega) (by omega) <| AC rfl <| NL <| SQ <| run_block <| SQ ?_
 refine run_block <| run_block <| SQ <| run_block <| SQ <| run_block <| SQ <| run_block <| SQ <| run_block <| SQ <| SQ <| SR <| MC rfl ?_
 refine CN <| Op1.eql rfl rfl <| AB rfl <| NL <| run_cond_dec rfl (fun g1 => ?_) (fun g1 => ?_)
 · skip
   refine run_exit (id := 1) rfl <| SQ <| SR <| MS rfl <| CN <| Op1.call1 (v1 := str _) ent63 rfl rfl <| Ret.det (R6lx_quoted _ (by omega) _ (hst.hD _ (.head _)) (by first | omega | (simp only [List.length_drop, List.length_take, List.length_append, List.length_cons, List.length_nil]; omega))) hst fun w hst => CN <| Op1.move (v := .tuple #[str _, .int .i64 _]) rfl <| CN <| Op1.extract (v := str _) rfl rfl <| CN <| Op1.extract (v := .int .i64 _) rfl rfl <| AS rfl <| AI rfl <| NL <| SQ <| SQ <| RG ?_
   refine MI rfl <| CN <| Op1.eql rfl rfl <| NL <| run_cond_dec rfl (fun g2 => ?_) (fun g2 => ?_)
   · skip
     refine SR <| CN (Op1.buildStruct ty43 stf43 .nil ?_)
     refine CN (SO (v := .agg #[.int .u8 _, str _, .int .i64 _]) hst ty43 rfl rfl (.here) fun w hst => ?_)
     refine AI rfl <| AI rfl <| NL <| run_ret3 Tryd.func50 rfl (RV.cellA (vs := [.int .u8 _, str _, .int .i64 _]) rfl ty43 rfl rfl (cells_of_obj (n := 3) (hst.objL (.head _)) _ rfl)) (TP (v := .int .i64 _) rfl) (TP (v := .int .i64 _) rfl) ?_
     exact .inr ⟨_, _, _, _, tok_strNo (a := 0) (by omega) (by omega), by decide, rfl, hst.pure⟩
   refine run_skip <| SR <| MS rfl <| CN (Op1.buildStruct ty43 stf43 (.c (v := .int .u8 _) rfl (h := (.c (v := str _) rfl (h := .nil)))) ?_)
   refine MI rfl <| CN (SO (v := .agg #[.int .u8 _, str _, .int .i64 _]) hst ty43 rfl rfl (.here) fun w hst => ?_)
   refine AI rfl <| AI rfl <| NL <| run_ret3 Tryd.func50 rfl (RV.cellA (vs := [.int .u8 _, str _, .int .i64 _]) rfl ty43 rfl rfl (cells_of_obj (n := 3) (hst.objL (.head _)) _ rfl)) (TP (v := .int .i64 _) rfl) (TP (v := .int .i64 _) rfl) ?_
   exact .inl ⟨_, _, _, tok_strOk (a := 0) (by omega) (by omega), rfl, hst.pure⟩
 refine run_skip <| SQ <| SR <| MC rfl <| CN <| Op1.eql rfl rfl <| AB rfl <| NL <| run_cond_dec rfl (fun g3 => ?_) (fun g3 => ?_)
 · skip
   refine run_exit (id := 2) rfl <| SQ <| SR <| CN (Op1.buildStruct ty43 stf43 (.c (v := .int .u8 _) rfl (h := (.c (v := str _) rfl (h := .nil)))) ?_)
   refine CN (SO (v := .agg #[.int .u8 _, str _, .int .i64 _]) hst ty43 rfl rfl (.here) fun w hst => ?_)
   refine AI rfl <| AI rfl <| NL <| run_ret3 Tryd.func50 rfl (RV.cellA (vs := [.int .u8 _, str _, .int .i64 _]) rfl ty43 rfl rfl (cells_of_obj (n := 3) (hst.objL (.head _)) _ rfl)) (TP (v := .int .i64 _) rfl) (TP (v := .int .i64 _) rfl) ?_
   exact .inl ⟨_, _, _, tok_eq (a := 0) (by omega), rfl, hst.pure⟩
 refine run_skip <| SQ <| SR <| MC rfl <| CN <| Op1.eql rfl rfl <| AB rfl <| NL <| run_cond_dec rfl (fun g4 => ?_) (fun g4 => ?_)
 · skip
   refine run_exit (id := 3) rfl <| SQ <| SR <| MS rfl <| CN <| Op1.sliceFrom ty9 rfl rfl (by omega) (by omega) <| CN <| Op1.call1 (v1 := str _) ent64 rfl rfl <| Ret.det (R6lx_run _ _ (by first | omega | (simp only [List.length_drop]; omega))) hst fun w hst => AS rfl <| NL <| Run.forget [(2, .pointer (some ⟨_, _, none⟩)), (8, str _)] ⟨rfl, rfl, trivial⟩ fun f => SQ <| SR <| MS rfl <| CN <| Op1.call1 (v1 := str _) ent65 rfl rfl <| Ret.det (R6lx_plain _ _ (hst.hD _ (.head _)) (by first | omega | (simp only [List.length_drop, List.length_take, List.length_append, List.length_cons, List.length_nil]; omega))) hst fun w hst => ?_
   refine CN <| Op1.move (v := .tuple #[.int .u32 _, .bool _]) rfl <| CN <| Op1.extract (v := .int .u32 _) rfl rfl <| CN <| Op1.extract (v := .bool _) rfl rfl <| AU rfl <| AB rfl <| NSR <| MB rfl <| CN <| Op1.not rfl <| NL <| run_cond_split rfl (fun g5 => ?_) (fun g5 => ?_)
   · skip
     refine SR <| CN (Op1.buildStruct ty43 stf43 .nil ?_)
     refine CN (SO (v := .agg #[.int .u8 _, str _, .int .i64 _]) hst ty43 rfl rfl (.here) fun w hst => ?_)
     refine AI rfl <| AI rfl <| NL <| run_ret3 Tryd.func50 rfl (RV.cellA (vs := [.int .u8 _, str _, .int .i64 _]) rfl ty43 rfl rfl (cells_of_obj (n := 3) (hst.objL (.head _)) _ rfl)) (TP (v := .int .i64 _) rfl) (TP (v := .int .i64 _) rfl) ?_
     exact .inr ⟨_, _, _, _, tok_idNo (a := 0) (by omega) (not_t g5), by decide, rfl, hst.pure⟩
   refine run_skip <| SR <| MS rfl <| CN (Op1.buildStruct ty43 stf43 (.c (v := .int .u8 _) rfl (h := (.c (v := str _) rfl (h := .nil)))) ?_)
   refine MS rfl <| CN <| Op1.lenS (rest := []) ty9 rfl <| CN <| Op1.addN rfl rfl rfl (wrap_i64 (by omega) (by omega)) <| CN (SO (v := .agg #[.int .u8 _, str _, .int .i64 _]) hst ty43 rfl rfl (.here) fun w hst => ?_)
   refine AI rfl <| AI rfl <| NL <| run_ret3 Tryd.func50 rfl (RV.cellA (vs := [.int .u8 _, str _, .int .i64 _]) rfl ty43 rfl rfl (cells_of_obj (n := 3) (hst.objL (.head _)) _ rfl)) (TP (v := .int .i64 _) rfl) (TP (v := .int .i64 _) rfl) ?_
   exact .inl ⟨_, _, _, tok_idOk (a := 0) (by omega) (not_f g5), by rw [show (1 : Int) + ((runF (s.drop ((1 : Int).toNat))).length : Int) = (((runF (s.drop (0 + 1))).length + 1 : Nat) : Int) by omega]; rfl, hst.pure⟩
 refine run_skip <| SQ <| SR <| MC rfl <| CN <| Op1.call1 (v1 := .int .u8 _) ent49 rfl rfl <| Ret.det (R6lx_kindOf _ _) hst fun w hst => CN <| Op1.eql rfl rfl <| AB rfl <| NL <| Run.forget [(0, str _), (2, .pointer (some ⟨_, _, none⟩)), (5, .int .u8 _), (26, .bool _)] ⟨rfl, rfl, rfl, rfl, trivial⟩ fun f => run_cond_dec rfl (fun g6 => ?_) (fun g6 => ?_)
 · skip
   refine run_exit (id := 4) rfl <| SQ <| SR <| MS rfl <| CN <| Op1.call1 (v1 := str _) ent64 rfl rfl <| Ret.det (R6lx_run _ _ (by first | omega | (simp only [List.length_drop]; omega))) hst fun w hst => AS rfl <| NSR <| MS rfl <| CN (Op1.buildStruct ty43 stf43 (.c (v := .int .u8 _) rfl (h := (.c (v := str _) rfl (h := .nil)))) ?_)
   refine MS rfl <| CN <| Op1.lenS (rest := []) ty9 rfl <| CN (SO (v := .agg #[.int .u8 _, str _, .int .i64 _]) hst ty43 rfl rfl (.here) fun w hst => ?_)
   refine AI rfl <| AI rfl <| NL <| run_ret3 Tryd.func50 rfl (RV.cellA (vs := [.int .u8 _, str _, .int .i64 _]) rfl ty43 rfl rfl (cells_of_obj (n := 3) (hst.objL (.head _)) _ rfl)) (TP (v := .int .i64 _) rfl) (TP (v := .int .i64 _) rfl) ?_
   exact .inl ⟨_, _, _, tok_word (a := 0) ((kind_let _).1 g6), rfl, hst.pure⟩
 refine run_skip <| SQ <| SR <| MC rfl <| CN <| Op1.eql rfl rfl <| AB rfl <| NL <| run_cond_dec rfl (fun g7 => ?_) (fun g7 => ?_)
 · skip
   refine run_exit (id := 5) rfl <| run_inBlock <| SQ <| SR <| MS rfl <| MS rfl <| CN <| Op1.sliceFrom ty9 rfl rfl (by omega) (by omega) <| CN <| Op1.call1 (v1 := str _) ent64 rfl rfl <| Ret.det (R6lx_run _ _ (by first | omega | (simp only [List.length_drop]; omega))) hst fun w hst => CN <| Op1.lenS (rest := []) ty9 rfl <| CN <| Op1.addN rfl rfl rfl (wrap_i64 (by omega) (by omega)) <| CN <| Op1.sliceTo ty9 rfl rfl (by omega) (by omega) <| AS rfl <| NL <| SQ ?_
   refine RG <| MS rfl <| CN <| Op1.call1 (v1 := str _) ent51 rfl rfl <| Ret.det (R6lx_lNumber _ _ (hst.hD _ (.head _)) (by first | omega | (simp only [List.length_drop, List.length_take, List.length_append, List.length_cons, List.length_nil]; omega))) hst fun w hst => CN <| Op1.move (v := .tuple #[.int .u32 _, .int .i64 _]) rfl <| CN <| Op1.extract (v := .int .u32 _) rfl rfl <| CN <| Op1.extract (v := .int .i64 _) rfl rfl <| AU rfl <| AI rfl <| NSR <| MS rfl <| CN (Op1.buildStruct ty43 stf43 (.c (v := .int .u8 _) rfl (h := (.c (v := str _) rfl (h := .nil)))) ?_)
   refine MS rfl <| CN <| Op1.lenS (rest := []) ty9 rfl <| MI rfl <| CN (SO (v := .agg #[.int .u8 _, str _, .int .i64 _]) hst ty43 rfl rfl (.here) fun w hst => ?_)
   refine AI rfl <| AI rfl <| NL <| run_ret3 Tryd.func50 rfl (RV.cellA (vs := [.int .u8 _, str _, .int .i64 _]) rfl ty43 rfl rfl (cells_of_obj (n := 3) (hst.objL (.head _)) _ rfl)) (TP (v := .int .i64 _) rfl) (TP (v := .int .i64 _) rfl) ?_
   have hta : (s.drop 0).take (1 + (runF (s.drop (0 + 1))).length) = s.take ((1 + ((runF (s.drop (0 + 1))).length : Int)).toNat) := by rw [List.drop_zero, show (1 + ((runF (s.drop (0 + 1))).length : Int)).toNat = 1 + (runF (s.drop (0 + 1))).length by omega]
   by_cases hz : (numLx (s.take ((1 + ((runF (s.drop (0 + 1))).length : Int)).toNat))).2 = 0
   · rw [show (numLx (s.take ((1 + ((runF (s.drop ((1 : Int).toNat))).length : Int)).toNat))).2 = 0 from hz]
     exact .inl ⟨_, _, _, tok_numOk (a := 0) (.inr (by omega)) hta hz, rfl, hst.pure⟩
   · have h62 := (numF_err (s.take ((1 + ((runF (s.drop (0 + 1))).length : Int)).toNat))).resolve_left hz
     rw [show (numLx (s.take ((1 + ((runF (s.drop ((1 : Int).toNat))).length : Int)).toNat))).2 = 62 from h62]
     exact .inr ⟨_, _, _, _, tok_numNo (a := 0) (.inr (by omega)) hta hz, by decide, rfl, hst.pure⟩
 refine run_skip <| SR <| MC rfl <| CN <| Op1.call1 (v1 := .int .u8 _) ent49 rfl rfl <| Ret.det (R6lx_kindOf _ _) hst fun w hst => CN <| Op1.eql rfl rfl <| AB rfl <| NL <| run_cond_dec rfl (fun g8 => ?_) (fun g8 => ?_)
 · skip
   refine run_exit (id := 6) rfl <| SQ <| SR <| MS rfl <| MS rfl <| CN <| Op1.sliceFrom ty9 rfl rfl (by omega) (by omega) <| CN <| Op1.call1 (v1 := str _) ent64 rfl rfl <| Ret.det (R6lx_run _ _ (by first | omega | (simp only [List.length_drop]; omega))) hst fun w hst => CN <| Op1.lenS (rest := []) ty9 rfl <| CN <| Op1.addN rfl rfl rfl (wrap_i64 (by omega) (by omega)) <| CN <| Op1.sliceTo ty9 rfl rfl (by omega) (by omega) <| AS rfl <| NL <| SQ <| RG ?_
   refine MS rfl <| CN <| Op1.call1 (v1 := str _) ent51 rfl rfl <| Ret.det (R6lx_lNumber _ _ (hst.hD _ (.head _)) (by first | omega | (simp only [List.length_drop, List.length_take, List.length_append, List.length_cons, List.length_nil]; omega))) hst fun w hst => CN <| Op1.move (v := .tuple #[.int .u32 _, .int .i64 _]) rfl <| CN <| Op1.extract (v := .int .u32 _) rfl rfl <| CN <| Op1.extract (v := .int .i64 _) rfl rfl <| AU rfl <| AI rfl <| NL <| Run.forget [(2, .pointer (some ⟨_, _, none⟩)), (12, str _), (14, .int .i64 _)] ⟨rfl, rfl, rfl, trivial⟩ fun f => SR <| MS rfl <| CN (Op1.buildStruct ty43 stf43 (.c (v := .int .u8 _) rfl (h := (.c (v := str _) rfl (h := .nil)))) ?_)
   refine MS rfl <| CN <| Op1.lenS (rest := []) ty9 rfl <| MI rfl <| CN (SO (v := .agg #[.int .u8 _, str _, .int .i64 _]) hst ty43 rfl rfl (.here) fun w hst => ?_)
   refine AI rfl <| AI rfl <| NL <| run_ret3 Tryd.func50 rfl (RV.cellA (vs := [.int .u8 _, str _, .int .i64 _]) rfl ty43 rfl rfl (cells_of_obj (n := 3) (hst.objL (.head _)) _ rfl)) (TP (v := .int .i64 _) rfl) (TP (v := .int .i64 _) rfl) ?_
   have hta : (s.drop 0).take (1 + (runF (s.drop (0 + 1))).length) = s.take ((1 + ((runF (s.drop (0 + 1))).length : Int)).toNat) := by rw [List.drop_zero, show (1 + ((runF (s.drop (0 + 1))).length : Int)).toNat = 1 + (runF (s.drop (0 + 1))).length by omega]
   by_cases hz : (numLx (s.take ((1 + ((runF (s.drop (0 + 1))).length : Int)).toNat))).2 = 0
   · rw [show (numLx (s.take ((1 + ((runF (s.drop ((1 : Int).toNat))).length : Int)).toNat))).2 = 0 from hz]
     exact .inl ⟨_, _, _, tok_numOk (a := 0) (.inl ((kind_dig _).1 g8)) hta hz, rfl, hst.pure⟩
   · have h62 := (numF_err (s.take ((1 + ((runF (s.drop (0 + 1))).length : Int)).toNat))).resolve_left hz
     rw [show (numLx (s.take ((1 + ((runF (s.drop ((1 : Int).toNat))).length : Int)).toNat))).2 = 62 from h62]
     exact .inr ⟨_, _, _, _, tok_numNo (a := 0) (.inl ((kind_dig _).1 g8)) hta hz, by decide, rfl, hst.pure⟩
 refine run_skip <| run_exit (id := 0) rfl <| SR <| CN (Op1.buildStruct ty43 stf43 .nil ?_)
 refine CN (SO (v := .agg #[.int .u8 _, str _, .int .i64 _]) hst ty43 rfl rfl (.here) fun w hst => ?_)
 refine AI rfl <| AI rfl <| NL <| run_ret3 Tryd.func50 rfl (RV.cellA (vs := [.int .u8 _, str _, .int .i64 _]) rfl ty43 rfl rfl (cells_of_obj (n := 3) (hst.objL (.head _)) _ rfl)) (TP (v := .int .i64 _) rfl) (TP (v := .int .i64 _) rfl) ?_
 exact .inr ⟨_, _, _, _, tok_bad (a := 0) (fun q => g6 ((kind_let _).2 q)) (by omega) (fun q => g8 ((kind_dig _).2 q)) (by omega) (by omega) (by omega), by decide, rfl, hst.pure⟩
theorem R6lx_rTokens (s : Tx) (w : World) (hl : s.length ≤ 1099511627776) : Ret Tryd.prog 11 #[str s] w (fun v w' => ∃ ao cp, v = .tuple #[.slice ao (toksF s).1.length cp, .agg #[.int .i64 (toksF s).2.1, .int .i64 (toksF s).2.2]] ∧ St w NoM [Res.sl ao (toksF s).1.length cp 43 3 ((toksF s).1.flatMap tokC)] [] w') := by
 refine Ret.enter (args := [str s]) Tryd.func11 rfl rfl rfl ?_
 have hst := St.init w
 refine SR <| AL rfl <| CN <| Op1.alloc hst ty27 fun w b3 hst => NSR <| AL rfl <| NSR <| AI rfl <| NL <| SQ <| run_block ?_
 refine run_loop ?_
 replace hst := hst.pushNil 43 3
 refine Run.indW [(0, str _), (3, .pointer (some ⟨_, _, none⟩))] ⟨rfl, rfl, trivial⟩ (fun (qq : Nat × List TokL × Option Addr × Nat) => [(4, .slice qq.2.2.1 qq.2.1.length qq.2.2.2), (5, .int .i64 (qq.1 : Int))]) (fun (qq : Nat × List TokL × Option Addr × Nat) => [Res.sl qq.2.2.1 qq.2.1.length qq.2.2.2 43 3 (qq.2.1.flatMap tokC)]) (fun (qq : Nat × List TokL × Option Addr × Nat) => toksI s qq.1 qq.2.1) (fun (qq : Nat × List TokL × Option Addr × Nat) => s.length - qq.1) ((0, [], none, 0)) hst (toksI_start s) ⟨rfl, rfl, trivial⟩ ?_
 intro ⟨i, l, aq, cq⟩ f w hst hJ ih1
 replace hst : St _ _ ([Res.sl aq l.length cq 43 3 (l.flatMap tokC)] ++ [_]) _ _ := hst
 replace hJ : toksI s i l := hJ
 refine Run.slots (sl := [(4, .slice aq l.length cq), (5, .int .i64 (i : Int))]) ⟨rfl, rfl, trivial⟩ ?_
 have hidx : (s.getD ((i : Int).toNat) 0).toNat = (s.getD i 0).toNat := rfl
 have hj2 := hJ.2.1
 have hj1 := hJ.1
 refine SQ <| SR <| MI rfl <| MS rfl <| CN <| Op1.lenS (rest := []) ty9 rfl <| CN <| Op1.lss rfl rfl <| MB rfl <| RunL.splitD (d := 13) rfl (fun g2 => ?_) (fun g2 => ?_)
 · skip
   refine TK (t := 13) rfl (congrArg Value.bool (decide_eq_true g2)) <| Op1.move (v := str _) rfl <| TK (t := 13) rfl (congrArg Value.bool (decide_eq_true g2)) <| Op1.move (v := .int .i64 _) rfl <| TK (t := 13) rfl (congrArg Value.bool (decide_eq_true g2)) <| Op1.indexS ty9 rfl rfl (by omega) (by omega) <| TK (t := 13) rfl (congrArg Value.bool (decide_eq_true g2)) <| Op1.neq rfl rfl <| CN <| Op1.pickT (u := .bool _) (congrArg Value.bool (decide_eq_true g2)) rfl <| NL <| run_cond_dec rfl (fun g3 => ?_) (fun g3 => ?_)
   · skip
     refine run_skip <| run_block <| SQ <| SR <| MS rfl <| MI rfl <| CN <| Op1.indexS ty9 rfl rfl (by omega) (by omega) <| CN <| Op1.call1 (v1 := .int .u8 _) ent25 rfl rfl <| Ret.det (R6lx_Blank _ _) hst fun w hst => NL <| run_cond_split rfl (fun g4 => ?_) (fun g4 => ?_)
     · skip
       refine SR <| MI rfl <| CN <| Op1.addN rfl rfl rfl (wrap_i64 (by omega) (by omega)) <| AI rfl <| NL <| run_exit (id := 1) rfl <| run_inLoop ?_
       have hI := toksI_blank hJ (by omega) (by omega) g4
       exact ih1 ((i + 1, l, aq, cq)) _ w ((by (try dsimp only); omega)) hst (hI) ⟨rfl, rfl, trivial⟩ ⟨rfl, (congrArg (Value.int .i64) (by (try dsimp only); omega)), trivial⟩
     refine run_skip <| SR <| MS rfl <| MI rfl <| CN (Op1.call2 (v1 := str _) (v2 := .int .i64 _) ent26 rfl rfl rfl ((R6lx_rToken s _ i rfl (by omega) _ hl).mono fun v w hp => ?_))
     rcases hp with ⟨kd, t, m, htk, rfl, hp⟩ | ⟨e, kd, t, m, htk, hne, rfl, hp⟩
     · skip
       replace hst := hst.keepc hp
       clear hp
       have hm := tokF_len (by rw [List.length_drop]; omega) htk
       rw [List.length_drop] at hm
       refine CN <| Op1.move (v := .tuple #[.agg #[.int .u8 _, str _, .int .i64 _], .int .i64 _, .int .i64 _]) rfl <| CN <| Op1.extract (v := .agg #[.int .u8 _, str _, .int .i64 _]) rfl rfl <| CN <| Op1.extract (v := .int .i64 _) rfl rfl <| CN <| Op1.extract (v := .int .i64 _) rfl rfl <| CN <| Op1.alloc hst ty43 fun w b6 hst => CN (SO (v := .agg #[.int .u8 _, str _, .int .i64 _]) hst ty43 rfl rfl (.here) fun w hst => ?_)
       refine AI rfl <| AI rfl <| NL <| Run.forget [(0, str _), (3, .pointer (some ⟨_, _, none⟩)), (4, .slice _ _ _), (5, .int .i64 _), (6, .pointer (some ⟨_, _, none⟩)), (7, .int .i64 _), (8, .int .i64 _)] ⟨rfl, rfl, rfl, rfl, rfl, rfl, rfl, trivial⟩ fun f => SQ <| SR <| MI rfl <| CN <| Op1.neq rfl rfl <| NL <| run_cond_dec rfl (fun g5 => ?_) (fun g5 => ?_)
       · skip
         exfalso
         exact g5 rfl
       refine run_skip <| SR <| ML rfl <| CN <| Op1.loadA (vs := [.int .u8 _, str _, .int .i64 _]) ty43 rfl rfl rfl (cells_of_obj (n := 3) (hst.objL (.head _)) _ rfl) <| CN (Op1.buildSl (z0 := [.int .u8 0, str [], .int .i64 0]) hst ty39 ty43 rfl rfl (by kernel_rfl) (.c (v := .agg #[.int .u8 _, str _, .int .i64 _]) rfl (h := .nil)) fun w b39 hst => ?_)
       refine CN (Op1.append (news := tokC ⟨kd, t, (i : Int)⟩) hst ty39 ty43 rfl rfl (.there (.there (.here))) rfl rfl rfl (cells_of_obj (n := 3) (hst.objL (.head _)) _ rfl) rfl rfl (by omega) fun w ao6 cp7 hst => ?_)
       replace hst := hst.drop (.there (.here))
       refine AL rfl <| NR <| MI rfl <| MI rfl <| CN <| Op1.addN rfl rfl rfl (wrap_i64 (by omega) (by omega)) <| AI rfl <| NL <| run_inBlock <| run_inLoop ?_
       have hI := toksI_ok hJ (by omega) (by omega) (f_no g4) htk
       replace hst := hst.pick (.cons (.here) (.cons (.there (.here)) .nil))
       exact ih1 ((i + m, l ++ [⟨kd, t, (i : Int)⟩], ao6, cp7)) _ w ((by (try dsimp only); omega)) (by rw [List.length_append, List.flatMap_append]; exact hst) (hI) ⟨rfl, rfl, trivial⟩ ⟨(by simp only [List.length_append]; rfl), (congrArg (Value.int .i64) (by (try dsimp only); omega)), trivial⟩
     · skip
       replace hst := hst.keepc hp
       clear hp
       refine CN <| Op1.move (v := .tuple #[.agg #[.int .u8 _, str _, .int .i64 _], .int .i64 _, .int .i64 _]) rfl <| CN <| Op1.extract (v := .agg #[.int .u8 _, str _, .int .i64 _]) rfl rfl <| CN <| Op1.extract (v := .int .i64 _) rfl rfl <| CN <| Op1.extract (v := .int .i64 _) rfl rfl <| CN <| Op1.alloc hst ty43 fun w b6 hst => CN (SO (v := .agg #[.int .u8 _, str _, .int .i64 _]) hst ty43 rfl rfl (.here) fun w hst => ?_)
       refine AI rfl <| AI rfl <| NL <| Run.forget [(0, str _), (3, .pointer (some ⟨_, _, none⟩)), (4, .slice _ _ _), (5, .int .i64 _), (6, .pointer (some ⟨_, _, none⟩)), (7, .int .i64 _), (8, .int .i64 _)] ⟨rfl, rfl, rfl, rfl, rfl, rfl, rfl, trivial⟩ fun f => SQ <| SR <| MI rfl <| CN <| Op1.neq rfl rfl <| NL <| run_cond_dec rfl (fun g8 => ?_) (fun g8 => ?_)
       · skip
         refine SR <| MI rfl <| MI rfl <| CN (Op1.buildStruct ty27 stf27 (.c (v := .int .i64 _) rfl (h := (.c (v := .int .i64 _) rfl (h := .nil)))) ?_)
         refine AL rfl <| CN (SO (v := .agg #[.int .i64 _, .int .i64 _]) hst ty27 rfl rfl (.there (.there (.here))) fun w hst => ?_)
         refine NL <| run_ret2 Tryd.func11 rfl (TP (v := .slice _ _ _) rfl) (RV.cellA (vs := [.int .i64 _, .int .i64 _]) rfl ty27 rfl rfl (cells_of_obj (n := 2) (hst.objL (.tail _ (.tail _ (.head _)))) _ rfl)) ?_
         rw [toksI_err hJ (by omega) (by omega) (f_no g4) htk]
         replace hst := hst.pushNil 43 3
         replace hst := hst.pick (.cons (.here) .nil)
         exact ⟨none, 0, rfl, hst.noD⟩
       exfalso
       exact g8 hne
   refine run_exit (id := 0) rfl <| SR <| ML rfl <| CN (Op1.buildStruct ty27 stf27 .nil ?_)
   refine AL rfl <| CN (SO (v := .agg #[.int .i64 _, .int .i64 _]) hst ty27 rfl rfl (.there (.here)) fun w hst => ?_)
   refine NL <| run_ret2 Tryd.func11 rfl (TP (v := .slice _ _ _) rfl) (RV.cellA (vs := [.int .i64 _, .int .i64 _]) rfl ty27 rfl rfl (cells_of_obj (n := 2) (hst.objL (.tail _ (.head _))) _ rfl)) ?_
   rw [toksI_end hJ (by omega)]
   replace hst := hst.pick (.cons (.here) .nil)
   exact ⟨aq, cq, rfl, hst.noD⟩
 refine OM (t := 13) rfl (congrArg Value.bool (decide_eq_false g2)) rfl <| OM (t := 13) rfl (congrArg Value.bool (decide_eq_false g2)) rfl <| OM (t := 13) rfl (congrArg Value.bool (decide_eq_false g2)) rfl <| OM (t := 13) rfl (congrArg Value.bool (decide_eq_false g2)) rfl <| CN <| Op1.pickF (u := .bool _) (congrArg Value.bool (decide_eq_false g2)) rfl <| NL <| run_cond_false (congrArg Value.bool (rfl : false = _)) <| run_exit (id := 0) rfl <| SR <| ML rfl <| CN (Op1.buildStruct ty27 stf27 .nil ?_)
 refine AL rfl <| CN (SO (v := .agg #[.int .i64 _, .int .i64 _]) hst ty27 rfl rfl (.there (.here)) fun w hst => ?_)
 refine NL <| run_ret2 Tryd.func11 rfl (TP (v := .slice _ _ _) rfl) (RV.cellA (vs := [.int .i64 _, .int .i64 _]) rfl ty27 rfl rfl (cells_of_obj (n := 2) (hst.objL (.tail _ (.head _))) _ rfl)) ?_
 rw [toksI_end hJ (by omega)]
 replace hst := hst.pick (.cons (.here) .nil)
 exact ⟨aq, cq, rfl, hst.noD⟩
theorem R6lx_lTokens (s : Tx) (w : World) (hG : LxG.holds w) (hl : s.length ≤ 1099511627776) : Ret Tryd.prog 30 #[str s] w (fun v w' => ∃ ao cp, v = .tuple #[.slice ao (toksF s).1.length cp, .agg #[.int .i64 (toksF s).2.1, .int .i64 (toksF s).2.2]] ∧ St w NoM [Res.sl ao (toksF s).1.length cp 43 3 ((toksF s).1.flatMap tokC)] [] w') := by
 refine Ret.enter (args := [str s]) Tryd.func30 rfl rfl rfl ?_
 have hst : St w NoM [] [LxG] w := St.init_Ds (by simp only [List.forall_mem_cons]; exact ⟨hG, fun _ h => absurd h List.not_mem_nil⟩)
 refine SR <| AL rfl <| CN <| Op1.alloc hst ty27 fun w b3 hst => NL <| run_scope <| SR <| AL rfl <| NL <| SQ <| run_label <| SQ <| SQ <| RG ?_
 refine AI rfl <| NL <| run_block <| run_loop ?_
 replace hst := hst.pushNil 43 3
 refine Run.indW [(0, str _), (3, .pointer (some ⟨_, _, none⟩))] ⟨rfl, rfl, trivial⟩ (fun (qq : Nat × List TokL × Option Addr × Nat) => [(4, .slice qq.2.2.1 qq.2.1.length qq.2.2.2), (5, .int .i64 (qq.1 : Int))]) (fun (qq : Nat × List TokL × Option Addr × Nat) => [Res.sl qq.2.2.1 qq.2.1.length qq.2.2.2 43 3 (qq.2.1.flatMap tokC)]) (fun (qq : Nat × List TokL × Option Addr × Nat) => toksI s qq.1 qq.2.1) (fun (qq : Nat × List TokL × Option Addr × Nat) => s.length - qq.1) ((0, [], none, 0)) hst (toksI_start s) ⟨rfl, rfl, trivial⟩ ?_
 intro ⟨i, l, aq, cq⟩ f w hst hJ ih1
 replace hst : St _ _ ([Res.sl aq l.length cq 43 3 (l.flatMap tokC)] ++ [_]) _ _ := hst
 replace hJ : toksI s i l := hJ
 refine Run.slots (sl := [(4, .slice aq l.length cq), (5, .int .i64 (i : Int))]) ⟨rfl, rfl, trivial⟩ ?_
 have hidx : (s.getD ((i : Int).toNat) 0).toNat = (s.getD i 0).toNat := rfl
 have hj2 := hJ.2.1
 have hj1 := hJ.1
 refine SQ <| SR <| MI rfl <| MS rfl <| CN <| Op1.lenS (rest := []) ty9 rfl <| CN <| Op1.lss rfl rfl <| NL <| run_cond_dec rfl (fun g2 => ?_) (fun g2 => ?_)
 · skip
   refine run_skip <| run_block <| SQ <| run_block <| SR <| MS rfl <| MI rfl <| CN <| Op1.indexS ty9 rfl rfl (by omega) (by omega) <| CN <| Op1.eql rfl rfl <| AB rfl <| NL <| run_cond_dec rfl (fun g3 => ?_) (fun g3 => ?_)
   · skip
     refine run_exit (id := 0) rfl <| SR <| ML rfl <| CN (Op1.buildStruct ty27 stf27 .nil ?_)
     refine AL rfl <| CN (SO (v := .agg #[.int .i64 _, .int .i64 _]) hst ty27 rfl rfl (.there (.here)) fun w hst => ?_)
     refine NL <| run_ret2 Tryd.func30 rfl (TP (v := .slice _ _ _) rfl) (RV.cellA (vs := [.int .i64 _, .int .i64 _]) rfl ty27 rfl rfl (cells_of_obj (n := 2) (hst.objL (.tail _ (.head _))) _ rfl)) ?_
     rw [toksI_end hJ (by omega)]
     replace hst := hst.pick (.cons (.here) .nil)
     exact ⟨aq, cq, rfl, hst.noD⟩
   refine SR <| MS rfl <| MI rfl <| CN <| Op1.indexS ty9 rfl rfl (by omega) (by omega) <| CN <| Op1.call1 (v1 := .int .u8 _) ent49 rfl rfl <| Ret.det (R6lx_kindOf _ _) hst fun w hst => CN <| Op1.eql rfl rfl <| AB rfl <| NL <| run_cond_dec rfl (fun g4 => ?_) (fun g4 => ?_)
   · skip
     refine SR <| MI rfl <| CN <| Op1.addN rfl rfl rfl (wrap_i64 (by omega) (by omega)) <| AI rfl <| NL <| run_exit (id := 1) rfl <| run_inLoop ?_
     have hI := toksI_blank hJ (by omega) (by omega) ((kind_blank _).1 g4)
     exact ih1 ((i + 1, l, aq, cq)) _ w ((by (try dsimp only); omega)) hst (hI) ⟨rfl, rfl, trivial⟩ ⟨rfl, (congrArg (Value.int .i64) (by (try dsimp only); omega)), trivial⟩
   refine run_skip <| run_inBlock <| SR <| MS rfl <| MI rfl <| CN <| Op1.sliceFrom ty9 rfl rfl (by omega) (by omega) <| CN (Op1.call1 (v1 := str _) ent50 rfl rfl ((R6lx_token (s.drop i) (by rw [List.length_drop]; omega) _ (hst.hD _ (.head _)) (by rw [List.length_drop]; omega)).mono fun v w hp => ?_))
   rcases hp with ⟨kd, t, m, htk, rfl, hp⟩ | ⟨e, kd, t, m, htk, hne, rfl, hp⟩
   · skip
     replace hst := hst.keepc hp
     clear hp
     have hm := tokF_len (by rw [List.length_drop]; omega) htk
     rw [List.length_drop] at hm
     refine CN <| Op1.move (v := .tuple #[.agg #[.int .u8 _, str _, .int .i64 _], .int .i64 _, .int .i64 _]) rfl <| CN <| Op1.extract (v := .agg #[.int .u8 _, str _, .int .i64 _]) rfl rfl <| CN <| Op1.extract (v := .int .i64 _) rfl rfl <| CN <| Op1.extract (v := .int .i64 _) rfl rfl <| CN <| Op1.alloc hst ty43 fun w b6 hst => CN (SO (v := .agg #[.int .u8 _, str _, .int .i64 _]) hst ty43 rfl rfl (.here) fun w hst => ?_)
     refine AI rfl <| AI rfl <| NL <| Run.forget [(0, str _), (3, .pointer (some ⟨_, _, none⟩)), (4, .slice _ _ _), (5, .int .i64 _), (6, .pointer (some ⟨_, _, none⟩)), (7, .int .i64 _), (8, .int .i64 _)] ⟨rfl, rfl, rfl, rfl, rfl, rfl, rfl, trivial⟩ fun f => SQ <| SR <| MI rfl <| CN <| Op1.neq rfl rfl <| NL <| run_cond_dec rfl (fun g5 => ?_) (fun g5 => ?_)
     · skip
       exfalso
       exact g5 rfl
     refine run_skip <| SR <| MI rfl <| CN <| Op1.fieldAddr fld43_2 rfl <| CN (SO (v := .int .i64 _) hst ty3 rfl rfl (.here) fun w hst => ?_)
     refine NSR <| ML rfl <| CN <| Op1.loadA (vs := [.int .u8 _, str _, .int .i64 _]) ty43 rfl rfl rfl (cells_of_obj (n := 3) (hst.objL (.head _)) _ rfl) <| CN (Op1.buildSl (z0 := [.int .u8 0, str [], .int .i64 0]) hst ty39 ty43 rfl rfl (by kernel_rfl) (.c (v := .agg #[.int .u8 _, str _, .int .i64 _]) rfl (h := .nil)) fun w b43 hst => ?_)
     refine CN (Op1.append (news := tokC ⟨kd, t, (i : Int)⟩) hst ty39 ty43 rfl rfl (.there (.there (.here))) rfl rfl rfl (cells_of_obj (n := 3) (hst.objL (.head _)) _ rfl) rfl rfl (by omega) fun w ao6 cp7 hst => ?_)
     replace hst := hst.drop (.there (.here))
     refine AL rfl <| NR <| MI rfl <| MI rfl <| CN <| Op1.addN rfl rfl rfl (wrap_i64 (by omega) (by omega)) <| AI rfl <| NL <| run_inBlock <| run_inLoop ?_
     have hI := toksI_ok hJ (by omega) (by omega) (fun q => g4 ((kind_blank _).2 q)) htk
     replace hst := hst.pick (.cons (.here) (.cons (.there (.here)) .nil))
     exact ih1 ((i + m, l ++ [⟨kd, t, (i : Int)⟩], ao6, cp7)) _ w ((by (try dsimp only); omega)) (by rw [List.length_append, List.flatMap_append]; exact hst) (hI) ⟨rfl, rfl, trivial⟩ ⟨(by simp only [List.length_append]; rfl), (congrArg (Value.int .i64) (by (try dsimp only); omega)), trivial⟩
   · skip
     replace hst := hst.keepc hp
     clear hp
     refine CN <| Op1.move (v := .tuple #[.agg #[.int .u8 _, str _, .int .i64 _], .int .i64 _, .int .i64 _]) rfl <| CN <| Op1.extract (v := .agg #[.int .u8 _, str _, .int .i64 _]) rfl rfl <| CN <| Op1.extract (v := .int .i64 _) rfl rfl <| CN <| Op1.extract (v := .int .i64 _) rfl rfl <| CN <| Op1.alloc hst ty43 fun w b6 hst => CN (SO (v := .agg #[.int .u8 _, str _, .int .i64 _]) hst ty43 rfl rfl (.here) fun w hst => ?_)
     refine AI rfl <| AI rfl <| NL <| Run.forget [(0, str _), (3, .pointer (some ⟨_, _, none⟩)), (4, .slice _ _ _), (5, .int .i64 _), (6, .pointer (some ⟨_, _, none⟩)), (7, .int .i64 _), (8, .int .i64 _)] ⟨rfl, rfl, rfl, rfl, rfl, rfl, rfl, trivial⟩ fun f => SQ <| SR <| MI rfl <| CN <| Op1.neq rfl rfl <| NL <| run_cond_dec rfl (fun g8 => ?_) (fun g8 => ?_)
     · skip
       refine SR <| MI rfl <| MI rfl <| CN (Op1.buildStruct ty27 stf27 (.c (v := .int .i64 _) rfl (h := (.c (v := .int .i64 _) rfl (h := .nil)))) ?_)
       refine AL rfl <| CN (SO (v := .agg #[.int .i64 _, .int .i64 _]) hst ty27 rfl rfl (.there (.there (.here))) fun w hst => ?_)
       refine NL <| run_ret2 Tryd.func30 rfl (TP (v := .slice _ _ _) rfl) (RV.cellA (vs := [.int .i64 _, .int .i64 _]) rfl ty27 rfl rfl (cells_of_obj (n := 2) (hst.objL (.tail _ (.tail _ (.head _)))) _ rfl)) ?_
       rw [toksI_err hJ (by omega) (by omega) (fun q => g4 ((kind_blank _).2 q)) htk]
       replace hst := hst.pushNil 43 3
       replace hst := hst.pick (.cons (.here) .nil)
       exact ⟨none, 0, rfl, hst.noD⟩
     exfalso
     exact g8 hne
 refine run_exit (id := 0) rfl <| SR <| ML rfl <| CN (Op1.buildStruct ty27 stf27 .nil ?_)
 refine AL rfl <| CN (SO (v := .agg #[.int .i64 _, .int .i64 _]) hst ty27 rfl rfl (.there (.here)) fun w hst => ?_)
 refine NL <| run_ret2 Tryd.func30 rfl (TP (v := .slice _ _ _) rfl) (RV.cellA (vs := [.int .i64 _, .int .i64 _]) rfl ty27 rfl rfl (cells_of_obj (n := 2) (hst.objL (.tail _ (.head _))) _ rfl)) ?_
 rw [toksI_end hJ (by omega)]
 replace hst := hst.pick (.cons (.here) .nil)
 exact ⟨aq, cq, rfl, hst.noD⟩
end Go.SK
namespace Go.SK
open Go Go.Proofs
theorem fld43_0 : FldF Tryd.prog 43 0 0 := FldF.of (n := 0) (by kernel_rfl)
theorem fld43_1 : FldF Tryd.prog 43 1 1 := FldF.of (n := 0) (by kernel_rfl)
end Go.SK
namespace Go.SK
open Go Go.Proofs
theorem fld53_4 : FldF Tryd.prog 53 4 4 := FldF.of (n := 1) (by kernel_rfl)
theorem fld53_2 : FldF Tryd.prog 53 2 2 := FldF.of (n := 0) (by kernel_rfl)
theorem fld53_1 : FldF Tryd.prog 53 1 1 := FldF.of (n := 0) (by kernel_rfl)
theorem ent34 : Enters Tryd.prog 34 := ⟨Tryd.f34, _, Tryd.func34, by kernel_rfl, rfl⟩
theorem fld53_0 : FldF Tryd.prog 53 0 0 := FldF.of (n := 0) (by kernel_rfl)
theorem ent32 : Enters Tryd.prog 32 := ⟨Tryd.f32, _, Tryd.func32, by kernel_rfl, rfl⟩
end Go.SK
namespace Go.SK
open Go Go.Proofs
open Go.RowKit
theorem R6as_fails (bq : Nat) (s : Tx) (ao : Option Addr) (cp : Nat) (l : List TokL) (a : Nat) (bound e p : Int) (e2 p2 : Int) (w : World) (hB : (Res.row bq 53 [str s, .slice ao l.length cp, .int .i64 (a : Int), .int .u32 bound, .int .i64 e, .int .i64 p]).holds w) : Ret Tryd.prog 32 #[.pointer (some ⟨bq, 0, none⟩), .int .i64 e2, .int .i64 p2] w (fun v w' => v = .bool false ∧ St w (Res.row bq 53 [str s, .slice ao l.length cp, .int .i64 (a : Int), .int .u32 bound, .int .i64 e, .int .i64 p]).foot [Res.row bq 53 [str s, .slice ao l.length cp, .int .i64 (a : Int), .int .u32 bound, .int .i64 e2, .int .i64 p2]] [] w') := by
 refine Ret.enter (args := [.pointer (some ⟨bq, 0, none⟩), .int .i64 e2, .int .i64 p2]) Tryd.func32 rfl rfl rfl ?_
 have hst : St w (Res.row bq 53 [str s, .slice ao l.length cp, .int .i64 (a : Int), .int .u32 bound, .int .i64 e, .int .i64 p]).foot [Res.row bq 53 [str s, .slice ao l.length cp, .int .i64 (a : Int), .int .u32 bound, .int .i64 e, .int .i64 p]] [] w := St.enter1 hB (fun d hd => by cases hd) (fun d hd => by cases hd)
 refine SR <| AB rfl <| NSR <| MP rfl <| MI rfl <| MI rfl <| CN (Op1.buildStruct ty27 stf27 (.c (v := .int .i64 _) rfl (h := (.c (v := .int .i64 _) rfl (h := .nil)))) ?_)
 refine CN <| Op1.nilCheckP rfl <| CN <| Op1.fieldAddr fld53_4 rfl <| CN (SO (v := .agg #[.int .i64 _, .int .i64 _]) hst ty27 rfl rfl (.here) fun w hst => ?_)
 refine NSR <| AB rfl <| NL <| run_ret1 Tryd.func32 rfl (TP (v := .bool _) rfl) ?_
 exact ⟨rfl, hst⟩
theorem R6as_more (bq : Nat) (s : Tx) (ao : Option Addr) (cp : Nat) (l : List TokL) (a : Nat) (bound e p : Int) (w : World) (hB : (Res.row bq 53 [str s, .slice ao l.length cp, .int .i64 (a : Int), .int .u32 bound, .int .i64 e, .int .i64 p]).holds w) : Ret Tryd.prog 34 #[.pointer (some ⟨bq, 0, none⟩)] w (fun v w' => v = .bool (decide (a < l.length)) ∧ St w (Res.row bq 53 [str s, .slice ao l.length cp, .int .i64 (a : Int), .int .u32 bound, .int .i64 e, .int .i64 p]).foot [Res.row bq 53 [str s, .slice ao l.length cp, .int .i64 (a : Int), .int .u32 bound, .int .i64 e, .int .i64 p]] [] w') := by
 refine Ret.enter (args := [.pointer (some ⟨bq, 0, none⟩)]) Tryd.func34 rfl rfl rfl ?_
 have hst : St w (Res.row bq 53 [str s, .slice ao l.length cp, .int .i64 (a : Int), .int .u32 bound, .int .i64 e, .int .i64 p]).foot [Res.row bq 53 [str s, .slice ao l.length cp, .int .i64 (a : Int), .int .u32 bound, .int .i64 e, .int .i64 p]] [] w := St.enter1 hB (fun d hd => by cases hd) (fun d hd => by cases hd)
 refine SR <| AB rfl <| NL <| SQ <| RunD.start [] hst (bs := [0, 1, 3, 7, 0, 16, 48, 112, 240, 511, 1023]) (ds := [some 3, some 4, some 5, some 6, some 7, some 8, some 9, some 10, some 11, some 12, some 2]) ⟨by kernel_rfl, by kernel_rfl, by kernel_rfl⟩ (fun tab1 => ?_)
 refine RunD.op (det _) tab1 1 (fun f' L' w' hc => Op1.move (v := .pointer (some ⟨_, _, none⟩)) (hc.old (v := .pointer (some ⟨_, _, none⟩)) rfl rfl rfl) ⟨[], ⟨rfl, rfl⟩, hc.st⟩) <| RunD.op (det _) tab1 2 (fun f' L' w' hc => Op1.nilCheckP (hc.det (j := 0) rfl rfl rfl rfl) ⟨[], ⟨rfl, rfl⟩, hc.st⟩) <| RunD.op (det _) tab1 3 (fun f' L' w' hc => Op1.fieldAddr fld53_2 (hc.det (j := 1) rfl rfl rfl rfl) ⟨[], ⟨rfl, rfl⟩, hc.st⟩) <| RunD.op (det _) tab1 4 (fun f' L' w' hc => Op1.load1 (v := .int .i64 _) ty3 rfl (hc.det (j := 2) rfl rfl rfl rfl) (hc.st.cellL (List.mem_append_right _ (.head _)) rfl) ⟨[], ⟨rfl, rfl⟩, hc.st⟩) <| RunD.op (det _) tab1 5 (fun f' L' w' hc => Op1.move (v := .pointer (some ⟨_, _, none⟩)) (hc.old (v := .pointer (some ⟨_, _, none⟩)) rfl rfl rfl) ⟨[], ⟨rfl, rfl⟩, hc.st⟩) <| RunD.op (det _) tab1 6 (fun f' L' w' hc => Op1.nilCheckP (hc.det (j := 4) rfl rfl rfl rfl) ⟨[], ⟨rfl, rfl⟩, hc.st⟩) <| RunD.op (det _) tab1 7 (fun f' L' w' hc => Op1.fieldAddr fld53_1 (hc.det (j := 5) rfl rfl rfl rfl) ⟨[], ⟨rfl, rfl⟩, hc.st⟩) <| RunD.op (det _) tab1 8 (fun f' L' w' hc => Op1.load1 (v := .slice _ _ _) ty39 rfl (hc.det (j := 6) rfl rfl rfl rfl) (hc.st.cellL (List.mem_append_right _ (.head _)) rfl) ⟨[], ⟨rfl, rfl⟩, hc.st⟩) <| RunD.op (det _) tab1 9 (fun f' L' w' hc => Op1.lenSl (rest := []) ty39 (hc.det (j := 7) rfl rfl rfl rfl) ⟨[], ⟨rfl, rfl⟩, hc.st⟩) <| RunD.fin followsMixed tab1 hst rfl (fun f2 w R5 hs3 hd4 hr6 hst => ?_)
 obtain ⟨h3_, r0⟩ := hd4 0 3 rfl rfl
 obtain ⟨h4_, r1⟩ := hd4 1 4 rfl rfl
 obtain ⟨h5_, r2⟩ := hd4 2 5 rfl rfl
 obtain ⟨h6_, r3⟩ := hd4 3 6 rfl rfl
 obtain ⟨h7_, r4⟩ := hd4 4 7 rfl rfl
 obtain ⟨h8_, r5⟩ := hd4 5 8 rfl rfl
 obtain ⟨h9_, r6⟩ := hd4 6 9 rfl rfl
 obtain ⟨h10_, r7⟩ := hd4 7 10 rfl rfl
 obtain ⟨h11_, r8⟩ := hd4 8 11 rfl rfl
 simp only [show List.range 9 = [0, 1, 2, 3, 4, 5, 6, 7, 8] from rfl, List.flatMap_cons, List.flatMap_nil, List.map_cons, List.map_nil, r0, r1, r2, r3, r4, r5, r6, r7, r8, List.nil_append, List.append_nil, List.cons_append] at hst
 refine RunL.slots (sl := [(6, .int .i64 _), (11, .int .i64 _)]) ⟨h6_, h11_, trivial⟩ ?_
 clear hs3 hd4 hr6 tab1
 refine CN <| Op1.lss rfl rfl <| AB rfl <| NL <| run_ret1 Tryd.func34 rfl (TP (v := .bool _) rfl) ?_
 exact ⟨congrArg Value.bool (by first | rfl | (rw [decide_eq_decide]; omega)), hst⟩
theorem R6as_take (bq : Nat) (s : Tx) (ao : Option Addr) (cp : Nat) (l : List TokL) (a : Nat) (bound e p : Int) (kd : Int) (w : World) (hB : (Res.row bq 53 [str s, .slice ao l.length cp, .int .i64 (a : Int), .int .u32 bound, .int .i64 e, .int .i64 p]).holds w) (hT : (Res.sl ao l.length cp 43 3 (l.flatMap tokC)).holds w) (hTA : Apart (Res.row bq 53 [str s, .slice ao l.length cp, .int .i64 (a : Int), .int .u32 bound, .int .i64 e, .int .i64 p]) (Res.sl ao l.length cp 43 3 (l.flatMap tokC))) (hl : s.length ≤ 1099511627776) (hll : l.length ≤ s.length) (hts : wsz l ≤ 7 * s.length) : Ret Tryd.prog 31 #[.pointer (some ⟨bq, 0, none⟩), .int .u8 kd] w (fun v w' => (l.length ≤ a ∧ v = .tuple #[.agg #[.int .u8 0, str [], .int .i64 0], .bool false] ∧ St w (Res.row bq 53 [str s, .slice ao l.length cp, .int .i64 (a : Int), .int .u32 bound, .int .i64 e, .int .i64 p]).foot [Res.row bq 53 [str s, .slice ao l.length cp, .int .i64 (a : Int), .int .u32 bound, .int .i64 72, .int .i64 (s.length)]] [] w') ∨ (a < l.length ∧ (l.getD a tok0).kind ≠ kd ∧ v = .tuple #[.agg #[.int .u8 0, str [], .int .i64 0], .bool false] ∧ St w (Res.row bq 53 [str s, .slice ao l.length cp, .int .i64 (a : Int), .int .u32 bound, .int .i64 e, .int .i64 p]).foot [Res.row bq 53 [str s, .slice ao l.length cp, .int .i64 (a : Int), .int .u32 bound, .int .i64 70, .int .i64 ((l.getD a tok0).at_)]] [] w') ∨ (a < l.length ∧ (l.getD a tok0).kind = kd ∧ v = .tuple #[.agg #[.int .u8 (l.getD a tok0).kind, str (l.getD a tok0).text, .int .i64 (l.getD a tok0).at_], .bool true] ∧ St w (Res.row bq 53 [str s, .slice ao l.length cp, .int .i64 (a : Int), .int .u32 bound, .int .i64 e, .int .i64 p]).foot [Res.row bq 53 [str s, .slice ao l.length cp, .int .i64 (a + 1 : Int), .int .u32 bound, .int .i64 e, .int .i64 p]] [] w')) := by
 refine Ret.enter (args := [.pointer (some ⟨bq, 0, none⟩), .int .u8 kd]) Tryd.func31 rfl rfl rfl ?_
 have hst : St w (Res.row bq 53 [str s, .slice ao l.length cp, .int .i64 (a : Int), .int .u32 bound, .int .i64 e, .int .i64 p]).foot [Res.row bq 53 [str s, .slice ao l.length cp, .int .i64 (a : Int), .int .u32 bound, .int .i64 e, .int .i64 p]] [Res.sl ao l.length cp 43 3 (l.flatMap tokC)] w := St.enter1 hB (by simp only [List.forall_mem_cons]; exact ⟨hT, fun _ h => absurd h List.not_mem_nil⟩) (by simp only [List.forall_mem_cons]; exact ⟨hTA, fun _ h => absurd h List.not_mem_nil⟩)
 have hidx : (l.getD ((a : Int).toNat) tok0).kind = (l.getD a tok0).kind := rfl
 refine SR <| CN <| Op1.alloc hst ty43 fun w b4 hst => AB rfl <| NL <| SQ <| run_block <| SR <| MP rfl ?_
 replace hst := hst.pick (.cons (.there (.here)) (.cons (.here) .nil))
 refine CN (Op1.call1 (v1 := .pointer (some ⟨_, _, none⟩)) ent34 rfl rfl ((R6as_more _ _ _ _ _ a _ _ _ _ (hst.hL _ (.head _))).mono fun v w hp => ?_))
 obtain ⟨rfl, hp⟩ := hp
 replace hst := hst.call1 hp
 clear hp
 refine CN <| Op1.notD rfl <| AB rfl <| NL <| run_cond_dec rfl (fun g1 => ?_) (fun g1 => ?_)
 · skip
   refine SR <| CN (Op1.buildStruct ty43 stf43 .nil ?_)
   refine MP rfl <| MP rfl <| CN <| Op1.nilCheckP rfl <| CN <| Op1.fieldAddr fld53_0 rfl <| CN <| Op1.load1 (v := str _) ty9 rfl rfl (hst.cellL (.head _) rfl) <| CN <| Op1.lenS (rest := []) ty9 rfl <| CN (Op1.call3 (v1 := .pointer (some ⟨_, _, none⟩)) (v2 := .int .i64 _) (v3 := .int .i64 _) ent32 rfl rfl rfl rfl ((R6as_fails _ _ _ _ _ a _ e p _ _ _ (hst.hL _ (.head _))).mono fun v w hp => ?_))
   obtain ⟨rfl, hp⟩ := hp
   replace hst := hst.call1 hp
   clear hp
   refine CN (SO (v := .agg #[.int .u8 _, str _, .int .i64 _]) hst ty43 rfl rfl (.there (.here)) fun w hst => ?_)
   refine AB rfl <| NL <| run_ret2 Tryd.func31 rfl (RV.cellA (vs := [.int .u8 _, str _, .int .i64 _]) rfl ty43 rfl rfl (cells_of_obj (n := 3) (hst.objL (.tail _ (.head _))) _ rfl)) (TP (v := .bool _) rfl) ?_
   replace hst := hst.pick (.cons (.here) .nil)
   exact .inl ⟨by omega, rfl, hst.noD⟩
 refine SQ ?_
 obtain ⟨bs2, rfl⟩ := Res.sl_some (hst.hD _ (.head _)) (by omega)
 refine RunD.start [] hst (bs := [0, 1, 3, 7, 0, 16, 48, 112, 255, 511, 1023, 0, 4095, 8191]) (ds := [some 19, some 20, some 21, some 22, some 23, some 24, some 25, some 26, some 27, some 28, some 29, some 30, some 31, some 18]) ⟨by kernel_rfl, by kernel_rfl, by kernel_rfl⟩ (fun tab3 => ?_)
 refine RunD.op (det _) tab3 1 (fun f' L' w' hc => Op1.move (v := .pointer (some ⟨_, _, none⟩)) (hc.old (v := .pointer (some ⟨_, _, none⟩)) rfl rfl rfl) ⟨[], ⟨rfl, rfl⟩, hc.st⟩) <| RunD.op (det _) tab3 2 (fun f' L' w' hc => Op1.nilCheckP (hc.det (j := 0) rfl rfl rfl rfl) ⟨[], ⟨rfl, rfl⟩, hc.st⟩) <| RunD.op (det _) tab3 3 (fun f' L' w' hc => Op1.fieldAddr fld53_1 (hc.det (j := 1) rfl rfl rfl rfl) ⟨[], ⟨rfl, rfl⟩, hc.st⟩) <| RunD.op (det _) tab3 4 (fun f' L' w' hc => Op1.load1 (v := .slice _ _ _) ty39 rfl (hc.det (j := 2) rfl rfl rfl rfl) (hc.st.cellL (List.mem_append_right _ (.head _)) rfl) ⟨[], ⟨rfl, rfl⟩, hc.st⟩) <| RunD.op (det _) tab3 5 (fun f' L' w' hc => Op1.move (v := .pointer (some ⟨_, _, none⟩)) (hc.old (v := .pointer (some ⟨_, _, none⟩)) rfl rfl rfl) ⟨[], ⟨rfl, rfl⟩, hc.st⟩) <| RunD.op (det _) tab3 6 (fun f' L' w' hc => Op1.nilCheckP (hc.det (j := 4) rfl rfl rfl rfl) ⟨[], ⟨rfl, rfl⟩, hc.st⟩) <| RunD.op (det _) tab3 7 (fun f' L' w' hc => Op1.fieldAddr fld53_2 (hc.det (j := 5) rfl rfl rfl rfl) ⟨[], ⟨rfl, rfl⟩, hc.st⟩) <| RunD.op (det _) tab3 8 (fun f' L' w' hc => Op1.load1 (v := .int .i64 _) ty3 rfl (hc.det (j := 6) rfl rfl rfl rfl) (hc.st.cellL (List.mem_append_right _ (.head _)) rfl) ⟨[], ⟨rfl, rfl⟩, hc.st⟩) <| RunD.op (det _) tab3 9 (fun f' L' w' hc => Op1.indexSl ty39 ty43 (hc.det (j := 3) rfl rfl rfl rfl) (hc.det (j := 7) rfl rfl rfl rfl) (by omega) (by omega) ⟨[], ⟨rfl, rfl⟩, hc.st⟩) <| RunD.op (det _) tab3 10 (fun f' L' w' hc => Op1.fieldAddr fld43_0 (hc.det (j := 8) rfl rfl rfl rfl) ⟨[], ⟨rfl, rfl⟩, hc.st⟩) <| RunD.op (det _) tab3 11 (fun f' L' w' hc => Op1.load1 (v := .int .u8 _) ty5 rfl (hc.det (j := 9) rfl rfl rfl rfl) (Res.sl_cell (hc.st.hD _ (.head _)) (flat_cell (g := tokC) (d := tok0) tokC_len rfl (by omega))) ⟨[], ⟨rfl, rfl⟩, hc.st⟩) <| RunD.op (det _) tab3 12 (fun f' L' w' hc => Op1.move (v := .int .u8 _) (hc.old (v := .int .u8 _) rfl rfl rfl) ⟨[], ⟨rfl, rfl⟩, hc.st⟩) <| RunD.fin followsMixed tab3 hst rfl (fun f4 w R7 hs5 hd6 hr8 hst => ?_)
 obtain ⟨h19_, r0⟩ := hd6 0 19 rfl rfl
 obtain ⟨h20_, r1⟩ := hd6 1 20 rfl rfl
 obtain ⟨h21_, r2⟩ := hd6 2 21 rfl rfl
 obtain ⟨h22_, r3⟩ := hd6 3 22 rfl rfl
 obtain ⟨h23_, r4⟩ := hd6 4 23 rfl rfl
 obtain ⟨h24_, r5⟩ := hd6 5 24 rfl rfl
 obtain ⟨h25_, r6⟩ := hd6 6 25 rfl rfl
 obtain ⟨h26_, r7⟩ := hd6 7 26 rfl rfl
 obtain ⟨h27_, r8⟩ := hd6 8 27 rfl rfl
 obtain ⟨h28_, r9⟩ := hd6 9 28 rfl rfl
 obtain ⟨h29_, r10⟩ := hd6 10 29 rfl rfl
 obtain ⟨h30_, r11⟩ := hd6 11 30 rfl rfl
 simp only [show List.range 12 = [0, 1, 2, 3, 4, 5, 6, 7, 8, 9, 10, 11] from rfl, List.flatMap_cons, List.flatMap_nil, List.map_cons, List.map_nil, r0, r1, r2, r3, r4, r5, r6, r7, r8, r9, r10, r11, List.nil_append, List.append_nil, List.cons_append] at hst
 refine RunL.slots (sl := [(0, .pointer (some ⟨_, _, none⟩)), (4, .pointer (some ⟨_, _, none⟩)), (29, .int .u8 _), (30, .int .u8 _)]) ⟨(hs5 0 rfl).trans rfl, (hs5 4 rfl).trans rfl, h29_, h30_, trivial⟩ ?_
 clear hs5 hd6 hr8 tab3
 refine CN <| Op1.neq rfl rfl <| AB rfl <| NL <| Run.forget [(0, .pointer (some ⟨_, _, none⟩)), (4, .pointer (some ⟨_, _, none⟩)), (18, .bool _)] ⟨rfl, rfl, rfl, trivial⟩ fun f => run_cond_dec rfl (fun g9 => ?_) (fun g9 => ?_)
 · skip
   refine SQ ?_
   apply RunD.start [(13, Res.row bq 53 _, Res.emp)] hst (bs := [0, 0, 0, 4, 12, 28, 0, 64, 192, 448, 1020, 2044, 4092, 8190, 16383, 32767]) (ds := [some 32, some 33, some 34, some 35, some 36, some 37, some 38, some 39, some 40, some 41, some 42, some 43, some 44, some 45, none, some 5]) (htab := ⟨by kernel_rfl, by kernel_rfl, by kernel_rfl⟩)
   intro tab10
   refine RunD.op (det _) tab10 1 (fun f' L' w' hc => Op1.buildStruct ty43 stf43 .nil ⟨[], ⟨rfl, rfl⟩, hc.st⟩) ?_
   refine RunD.op (det _) tab10 2 (fun f' L' w' hc => Op1.move (v := .pointer (some ⟨_, _, none⟩)) (hc.old (v := .pointer (some ⟨_, _, none⟩)) rfl rfl rfl) ⟨[], ⟨rfl, rfl⟩, hc.st⟩) <| RunD.op (det _) tab10 3 (fun f' L' w' hc => Op1.move (v := .pointer (some ⟨_, _, none⟩)) (hc.old (v := .pointer (some ⟨_, _, none⟩)) rfl rfl rfl) ⟨[], ⟨rfl, rfl⟩, hc.st⟩) <| RunD.op (det _) tab10 4 (fun f' L' w' hc => Op1.nilCheckP (hc.det (j := 2) rfl rfl rfl rfl) ⟨[], ⟨rfl, rfl⟩, hc.st⟩) <| RunD.op (det _) tab10 5 (fun f' L' w' hc => Op1.fieldAddr fld53_1 (hc.det (j := 3) rfl rfl rfl rfl) ⟨[], ⟨rfl, rfl⟩, hc.st⟩) <| RunD.opP (det _) tab10 6 (fun f' L' w' hc hlate => Op1.load1 (v := .slice _ _ _) ty39 rfl (hc.det (j := 4) rfl rfl rfl rfl) (hc.st.cellL (List.mem_append_left _ (hlate _ _ _ (.head _) rfl)) rfl) ⟨[], ⟨rfl, rfl⟩, hc.st⟩) <| RunD.op (det _) tab10 7 (fun f' L' w' hc => Op1.move (v := .pointer (some ⟨_, _, none⟩)) (hc.old (v := .pointer (some ⟨_, _, none⟩)) rfl rfl rfl) ⟨[], ⟨rfl, rfl⟩, hc.st⟩) <| RunD.op (det _) tab10 8 (fun f' L' w' hc => Op1.nilCheckP (hc.det (j := 6) rfl rfl rfl rfl) ⟨[], ⟨rfl, rfl⟩, hc.st⟩) <| RunD.op (det _) tab10 9 (fun f' L' w' hc => Op1.fieldAddr fld53_2 (hc.det (j := 7) rfl rfl rfl rfl) ⟨[], ⟨rfl, rfl⟩, hc.st⟩) <| RunD.opP (det _) tab10 10 (fun f' L' w' hc hlate => Op1.load1 (v := .int .i64 _) ty3 rfl (hc.det (j := 8) rfl rfl rfl rfl) (hc.st.cellL (List.mem_append_left _ (hlate _ _ _ (.head _) rfl)) rfl) ⟨[], ⟨rfl, rfl⟩, hc.st⟩) <| RunD.op (det _) tab10 11 (fun f' L' w' hc => Op1.indexSl ty39 ty43 (hc.det (j := 5) rfl rfl rfl rfl) (hc.det (j := 9) rfl rfl rfl rfl) (by omega) (by omega) ⟨[], ⟨rfl, rfl⟩, hc.st⟩) <| RunD.op (det _) tab10 12 (fun f' L' w' hc => Op1.fieldAddr fld43_2 (hc.det (j := 10) rfl rfl rfl rfl) ⟨[], ⟨rfl, rfl⟩, hc.st⟩) <| RunD.op (det _) tab10 13 (fun f' L' w' hc => Op1.load1 (v := .int .i64 _) ty3 rfl (hc.det (j := 11) rfl rfl rfl rfl) (Res.sl_cell (hc.st.hD _ (.head _)) (flat_cell (g := tokC) (d := tok0) tokC_len rfl (by omega))) ⟨[], ⟨rfl, rfl⟩, hc.st⟩) <| RunD.ownC (fun g v rs => v = .bool false ∧ rs = [Res.row bq 53 [str s, .slice (some ⟨bs2, 0, none⟩) l.length cp, .int .i64 (a : Int), .int .u32 bound, .int .i64 70, .int .i64 ((l.getD a tok0).at_)]]) tab10 14 (.head _) (fun f' L' L'' w' hc ⟨X, hrem, hX⟩ => Op1.call3 (v1 := .pointer (some ⟨_, _, none⟩)) (v2 := .int .i64 _) (v3 := .int .i64 _) ent32 rfl (hc.det (j := 1) rfl rfl rfl rfl) rfl (hc.det (j := 12) rfl rfl rfl rfl) ((R6as_fails bq s _ cp l a bound e p 70 ((l.getD a tok0).at_) _ (hc.st.hL _ hrem.mem2)).mono fun v w hp => ⟨[_], fun g hg => ⟨hp.1, rfl⟩, hX _ _ (St.callRem hc.st hrem hp.2)⟩)) <| RunD.fin followsMixed tab10 hst rfl (fun f11 w R14 hs12 hd13 hr15 hst => ?_)
   obtain ⟨h32_, r0⟩ := hd13 0 32 rfl rfl
   obtain ⟨h33_, r1⟩ := hd13 1 33 rfl rfl
   obtain ⟨h34_, r2⟩ := hd13 2 34 rfl rfl
   obtain ⟨h35_, r3⟩ := hd13 3 35 rfl rfl
   obtain ⟨h36_, r4⟩ := hd13 4 36 rfl rfl
   obtain ⟨h37_, r5⟩ := hd13 5 37 rfl rfl
   obtain ⟨h38_, r6⟩ := hd13 6 38 rfl rfl
   obtain ⟨h39_, r7⟩ := hd13 7 39 rfl rfl
   obtain ⟨h40_, r8⟩ := hd13 8 40 rfl rfl
   obtain ⟨h41_, r9⟩ := hd13 9 41 rfl rfl
   obtain ⟨h42_, r10⟩ := hd13 10 42 rfl rfl
   obtain ⟨h43_, r11⟩ := hd13 11 43 rfl rfl
   obtain ⟨h44_, r12⟩ := hd13 12 44 rfl rfl
   obtain ⟨h45_, r13⟩ := hd13 13 45 rfl rfl
   simp only [show List.range 14 = [0, 1, 2, 3, 4, 5, 6, 7, 8, 9, 10, 11, 12, 13] from rfl, List.flatMap_cons, List.flatMap_nil, List.map_cons, List.map_nil, r0, r1, r2, r3, r4, r5, r6, r7, r8, r9, r10, r11, r12, r13, List.nil_append, List.append_nil, List.cons_append] at hst
   refine RunL.slots (sl := [(4, .pointer (some ⟨_, _, none⟩)), (32, .agg #[.int .u8 _, str _, .int .i64 _]), (45, .bool _)]) ⟨(hs12 4 rfl).trans rfl, h32_, h45_, trivial⟩ ?_
   clear hs12 hd13 hr15 tab10
   refine CN (SO (v := .agg #[.int .u8 _, str _, .int .i64 _]) hst ty43 rfl rfl (.there (.there (.here))) fun w hst => ?_)
   refine AB rfl <| NL <| run_ret2 Tryd.func31 rfl (RV.cellA (vs := [.int .u8 _, str _, .int .i64 _]) rfl ty43 rfl rfl (cells_of_obj (n := 3) (hst.objL (.tail _ (.tail _ (.head _)))) _ rfl)) (TP (v := .bool _) rfl) ?_
   replace hst := hst.pick (.cons (.here) .nil)
   exact .inr (.inl ⟨by omega, by omega, rfl, hst.noD⟩)
 refine run_skip <| run_inBlock <| SR <| MP rfl <| CN <| Op1.nilCheckP rfl <| CN <| Op1.fieldAddr fld53_2 rfl <| CN <| Op1.load1 (v := .int .i64 _) ty3 rfl rfl (hst.cellL (.head _) rfl) <| CN <| Op1.addN rfl rfl rfl (wrap_i64 (by omega) (by omega)) <| CN <| Op1.nilCheckP rfl <| CN <| Op1.fieldAddr fld53_2 rfl <| CN (SO (v := .int .i64 _) hst ty3 rfl rfl (.here) fun w hst => ?_)
 refine NL <| SQ <| RunD.start [] hst (bs := [0, 1, 3, 7, 0, 16, 48, 112, 240, 511, 1023, 2047, 4095]) (ds := [some 53, some 54, some 55, some 56, some 57, some 58, some 59, some 60, some 61, some 62, some 63, none, some 5]) ⟨by kernel_rfl, by kernel_rfl, by kernel_rfl⟩ (fun tab16 => ?_)
 refine RunD.op (det _) tab16 1 (fun f' L' w' hc => Op1.move (v := .pointer (some ⟨_, _, none⟩)) (hc.old (v := .pointer (some ⟨_, _, none⟩)) rfl rfl rfl) ⟨[], ⟨rfl, rfl⟩, hc.st⟩) <| RunD.op (det _) tab16 2 (fun f' L' w' hc => Op1.nilCheckP (hc.det (j := 0) rfl rfl rfl rfl) ⟨[], ⟨rfl, rfl⟩, hc.st⟩) <| RunD.op (det _) tab16 3 (fun f' L' w' hc => Op1.fieldAddr fld53_1 (hc.det (j := 1) rfl rfl rfl rfl) ⟨[], ⟨rfl, rfl⟩, hc.st⟩) <| RunD.op (det _) tab16 4 (fun f' L' w' hc => Op1.load1 (v := .slice _ _ _) ty39 rfl (hc.det (j := 2) rfl rfl rfl rfl) (hc.st.cellL (List.mem_append_right _ (.head _)) rfl) ⟨[], ⟨rfl, rfl⟩, hc.st⟩) <| RunD.op (det _) tab16 5 (fun f' L' w' hc => Op1.move (v := .pointer (some ⟨_, _, none⟩)) (hc.old (v := .pointer (some ⟨_, _, none⟩)) rfl rfl rfl) ⟨[], ⟨rfl, rfl⟩, hc.st⟩) <| RunD.op (det _) tab16 6 (fun f' L' w' hc => Op1.nilCheckP (hc.det (j := 4) rfl rfl rfl rfl) ⟨[], ⟨rfl, rfl⟩, hc.st⟩) <| RunD.op (det _) tab16 7 (fun f' L' w' hc => Op1.fieldAddr fld53_2 (hc.det (j := 5) rfl rfl rfl rfl) ⟨[], ⟨rfl, rfl⟩, hc.st⟩) <| RunD.op (det _) tab16 8 (fun f' L' w' hc => Op1.load1 (v := .int .i64 _) ty3 rfl (hc.det (j := 6) rfl rfl rfl rfl) (hc.st.cellL (List.mem_append_right _ (.head _)) rfl) ⟨[], ⟨rfl, rfl⟩, hc.st⟩) <| RunD.op (det _) tab16 9 (fun f' L' w' hc => Op1.subN (hc.det (j := 7) rfl rfl rfl rfl) rfl rfl (wrap_i64 (by omega) (by omega)) ⟨[], ⟨rfl, rfl⟩, hc.st⟩) <| RunD.fin followsMixed tab16 hst rfl (fun f17 w R20 hs18 hd19 hr21 hst => ?_)
 obtain ⟨h53_, r0⟩ := hd19 0 53 rfl rfl
 obtain ⟨h54_, r1⟩ := hd19 1 54 rfl rfl
 obtain ⟨h55_, r2⟩ := hd19 2 55 rfl rfl
 obtain ⟨h56_, r3⟩ := hd19 3 56 rfl rfl
 obtain ⟨h57_, r4⟩ := hd19 4 57 rfl rfl
 obtain ⟨h58_, r5⟩ := hd19 5 58 rfl rfl
 obtain ⟨h59_, r6⟩ := hd19 6 59 rfl rfl
 obtain ⟨h60_, r7⟩ := hd19 7 60 rfl rfl
 obtain ⟨h61_, r8⟩ := hd19 8 61 rfl rfl
 simp only [show List.range 9 = [0, 1, 2, 3, 4, 5, 6, 7, 8] from rfl, List.flatMap_cons, List.flatMap_nil, List.map_cons, List.map_nil, r0, r1, r2, r3, r4, r5, r6, r7, r8, List.nil_append, List.append_nil, List.cons_append] at hst
 refine RunL.slots (sl := [(4, .pointer (some ⟨_, _, none⟩)), (56, .slice _ _ _), (61, .int .i64 _)]) ⟨(hs18 4 rfl).trans rfl, h56_, h61_, trivial⟩ ?_
 clear hs18 hd19 hr21 tab16
 refine CN <| Op1.indexSl ty39 ty43 rfl rfl (by omega) (by omega) <| CN <| Op1.loadA (vs := [.int .u8 _, str _, .int .i64 _]) ty43 rfl rfl rfl (Res.sl_cells (k := 3) (hst.hD _ (.head _)) _ (flat_seg (g := tokC) (d := tok0) tokC_len _ _ (by omega))) <| CN (SO (v := .agg #[.int .u8 _, str _, .int .i64 _]) hst ty43 rfl rfl (.there (.here)) fun w hst => ?_)
 refine AB rfl <| NL <| run_ret2 Tryd.func31 rfl (RV.cellA (vs := [.int .u8 _, str _, .int .i64 _]) rfl ty43 rfl rfl (cells_of_obj (n := 3) (hst.objL (.tail _ (.head _))) _ rfl)) (TP (v := .bool _) rfl) ?_
 replace hst := hst.pick (.cons (.here) .nil)
 rw [show ((a : Int) + 1 - 1).toNat = a by omega]
 exact .inr (.inr ⟨by omega, by omega, rfl, hst.noD⟩)
end Go.SK
namespace Go.SK
open Go Go.Proofs
theorem ent31 : Enters Tryd.prog 31 := ⟨Tryd.f31, _, Tryd.func31, by kernel_rfl, rfl⟩
end Go.SK
namespace Go.SK
open Go Go.Proofs
open Go.RowKit
theorem R6as_number (bq : Nat) (s : Tx) (ao : Option Addr) (cp : Nat) (l : List TokL) (a : Nat) (bound e p : Int) (w : World) (hB : (Res.row bq 53 [str s, .slice ao l.length cp, .int .i64 (a : Int), .int .u32 bound, .int .i64 e, .int .i64 p]).holds w) (hT : (Res.sl ao l.length cp 43 3 (l.flatMap tokC)).holds w) (hTA : Apart (Res.row bq 53 [str s, .slice ao l.length cp, .int .i64 (a : Int), .int .u32 bound, .int .i64 e, .int .i64 p]) (Res.sl ao l.length cp 43 3 (l.flatMap tokC))) (hl : s.length ≤ 1099511627776) (hll : l.length ≤ s.length) (hts : wsz l ≤ 7 * s.length) (hG : LxG.holds w) (hGA : Apart (Res.row bq 53 [str s, .slice ao l.length cp, .int .i64 (a : Int), .int .u32 bound, .int .i64 e, .int .i64 p]) LxG) : Ret Tryd.prog 33 #[.pointer (some ⟨bq, 0, none⟩)] w (fun v w' => (l.length ≤ a ∧ v = .tuple #[.int .u32 0, .bool false] ∧ St w (Res.row bq 53 [str s, .slice ao l.length cp, .int .i64 (a : Int), .int .u32 bound, .int .i64 e, .int .i64 p]).foot [Res.row bq 53 [str s, .slice ao l.length cp, .int .i64 (a : Int), .int .u32 bound, .int .i64 72, .int .i64 (s.length)]] [] w') ∨ (a < l.length ∧ (l.getD a tok0).kind ≠ 3 ∧ v = .tuple #[.int .u32 0, .bool false] ∧ St w (Res.row bq 53 [str s, .slice ao l.length cp, .int .i64 (a : Int), .int .u32 bound, .int .i64 e, .int .i64 p]).foot [Res.row bq 53 [str s, .slice ao l.length cp, .int .i64 (a : Int), .int .u32 bound, .int .i64 70, .int .i64 ((l.getD a tok0).at_)]] [] w') ∨ (a < l.length ∧ (l.getD a tok0).kind = 3 ∧ (numLx (l.getD a tok0).text).2 ≠ 0 ∧ v = .tuple #[.int .u32 0, .bool false] ∧ St w (Res.row bq 53 [str s, .slice ao l.length cp, .int .i64 (a : Int), .int .u32 bound, .int .i64 e, .int .i64 p]).foot [Res.row bq 53 [str s, .slice ao l.length cp, .int .i64 (a + 1 : Int), .int .u32 bound, .int .i64 ((numLx (l.getD a tok0).text).2), .int .i64 ((l.getD a tok0).at_)]] [] w') ∨ (a < l.length ∧ (l.getD a tok0).kind = 3 ∧ (numLx (l.getD a tok0).text).2 = 0 ∧ v = .tuple #[.int .u32 (numLx (l.getD a tok0).text).1, .bool true] ∧ St w (Res.row bq 53 [str s, .slice ao l.length cp, .int .i64 (a : Int), .int .u32 bound, .int .i64 e, .int .i64 p]).foot [Res.row bq 53 [str s, .slice ao l.length cp, .int .i64 (a + 1 : Int), .int .u32 bound, .int .i64 e, .int .i64 p]] [] w')) := by
 refine Ret.enter (args := [.pointer (some ⟨bq, 0, none⟩)]) Tryd.func33 rfl rfl rfl ?_
 have hst : St w (Res.row bq 53 [str s, .slice ao l.length cp, .int .i64 (a : Int), .int .u32 bound, .int .i64 e, .int .i64 p]).foot [Res.row bq 53 [str s, .slice ao l.length cp, .int .i64 (a : Int), .int .u32 bound, .int .i64 e, .int .i64 p]] [Res.sl ao l.length cp 43 3 (l.flatMap tokC), LxG] w := St.enter1 hB (by simp only [List.forall_mem_cons]; exact ⟨hT, hG, fun _ h => absurd h List.not_mem_nil⟩) (by simp only [List.forall_mem_cons]; exact ⟨hTA, hGA, fun _ h => absurd h List.not_mem_nil⟩)
 refine SR <| AU rfl <| AB rfl <| NSR <| MP rfl <| CN (Op1.call2 (v1 := .pointer (some ⟨_, _, none⟩)) (v2 := .int .u8 _) ent31 rfl rfl rfl ((R6as_take _ _ _ _ l a _ _ _ 3 _ (hst.hL _ (.head _)) (hst.hD _ (.head _)) (hst.sepD _ (.head _) _ (.head _)) hl hll hts).mono fun v w hp => ?_))
 rcases hp with ⟨hk10, rfl, hp⟩ | ⟨hk10, hd10, rfl, hp⟩ | ⟨hk10, hd10, rfl, hp⟩
 · skip
   replace hst := hst.call1 hp
   clear hp
   refine CN <| Op1.move (v := .tuple #[.agg #[.int .u8 _, str _, .int .i64 _], .bool _]) rfl <| CN <| Op1.extract (v := .agg #[.int .u8 _, str _, .int .i64 _]) rfl rfl <| CN <| Op1.extract (v := .bool _) rfl rfl <| CN <| Op1.alloc hst ty43 fun w b4 hst => CN (SO (v := .agg #[.int .u8 _, str _, .int .i64 _]) hst ty43 rfl rfl (.here) fun w hst => ?_)
   refine AB rfl <| NL <| SQ <| SR <| MB rfl <| CN <| Op1.not rfl <| NL <| run_cond_true (congrArg Value.bool (congrArg not (rfl : false = _))) <| SR <| AU rfl <| AB rfl <| NL <| run_ret2 Tryd.func33 rfl (TP (v := .int .u32 _) rfl) (TP (v := .bool _) rfl) ?_
   replace hst := hst.pick (.cons (.there (.here)) .nil)
   exact .inl ⟨hk10, rfl, hst.noD⟩
 · skip
   replace hst := hst.call1 hp
   clear hp
   refine CN <| Op1.move (v := .tuple #[.agg #[.int .u8 _, str _, .int .i64 _], .bool _]) rfl <| CN <| Op1.extract (v := .agg #[.int .u8 _, str _, .int .i64 _]) rfl rfl <| CN <| Op1.extract (v := .bool _) rfl rfl <| CN <| Op1.alloc hst ty43 fun w b4 hst => CN (SO (v := .agg #[.int .u8 _, str _, .int .i64 _]) hst ty43 rfl rfl (.here) fun w hst => ?_)
   refine AB rfl <| NL <| SQ <| SR <| MB rfl <| CN <| Op1.not rfl <| NL <| run_cond_true (congrArg Value.bool (congrArg not (rfl : false = _))) <| SR <| AU rfl <| AB rfl <| NL <| run_ret2 Tryd.func33 rfl (TP (v := .int .u32 _) rfl) (TP (v := .bool _) rfl) ?_
   replace hst := hst.pick (.cons (.there (.here)) .nil)
   exact .inr (.inl ⟨hk10, hd10, rfl, hst.noD⟩)
 · skip
   replace hst := hst.call1 hp
   clear hp
   refine CN <| Op1.move (v := .tuple #[.agg #[.int .u8 _, str _, .int .i64 _], .bool _]) rfl <| CN <| Op1.extract (v := .agg #[.int .u8 _, str _, .int .i64 _]) rfl rfl <| CN <| Op1.extract (v := .bool _) rfl rfl <| CN <| Op1.alloc hst ty43 fun w b4 hst => CN (SO (v := .agg #[.int .u8 _, str _, .int .i64 _]) hst ty43 rfl rfl (.here) fun w hst => ?_)
   refine AB rfl <| NL <| SQ <| SR <| MB rfl <| CN <| Op1.not rfl <| NL <| run_cond_false (congrArg Value.bool (congrArg not (rfl : true = _))) <| run_skip <| SR <| CN <| Op1.fieldAddr fld43_1 rfl <| CN <| Op1.load1 (v := str _) ty9 rfl rfl (hst.cellL (.head _) rfl) <| CN <| Op1.call1 (v1 := str _) ent51 rfl rfl <| Ret.det (R6lx_lNumber (l.getD a tok0).text _ (hst.hD _ (.tail _ (.head _))) (by have := wsz_mem (l := l) (i := a) (by omega); omega)) hst fun w hst => ?_
   refine CN <| Op1.move (v := .tuple #[.int .u32 _, .int .i64 _]) rfl <| CN <| Op1.extract (v := .int .u32 _) rfl rfl <| CN <| Op1.extract (v := .int .i64 _) rfl rfl <| AU rfl <| AI rfl <| NL <| Run.forget [(0, .pointer (some ⟨_, _, none⟩)), (4, .pointer (some ⟨_, _, none⟩)), (6, .int .u32 _), (7, .int .i64 _)] ⟨rfl, rfl, rfl, rfl, trivial⟩ fun f => SQ <| SR <| MI rfl <| CN <| Op1.neq rfl rfl <| NL <| run_cond_dec rfl (fun g1 => ?_) (fun g1 => ?_)
   · skip
     refine SR <| MP rfl <| MI rfl <| CN <| Op1.fieldAddr fld43_2 rfl <| CN (Op1.load1 (v := .int .i64 _) ty3 rfl rfl (hst.cellL (.head _) rfl) ?_)
     replace hst := hst.pick (.cons (.there (.here)) (.cons (.here) .nil))
     refine CN (Op1.call3 (v1 := .pointer (some ⟨_, _, none⟩)) (v2 := .int .i64 _) (v3 := .int .i64 _) ent32 rfl rfl rfl rfl ((R6as_fails _ _ _ _ _ _ _ e p _ _ _ (hst.hL _ (.head _))).mono fun v w hp => ?_))
     obtain ⟨rfl, hp⟩ := hp
     replace hst := hst.call1 hp
     clear hp
     refine AU rfl <| AB rfl <| NL <| run_ret2 Tryd.func33 rfl (TP (v := .int .u32 _) rfl) (TP (v := .bool _) rfl) ?_
     replace hst := hst.pick (.cons (.here) .nil)
     exact .inr (.inr (.inl ⟨hk10, hd10, g1, rfl, hst.noD⟩))
   refine run_skip <| SR <| MU rfl <| AU rfl <| AB rfl <| NL <| run_ret2 Tryd.func33 rfl (TP (v := .int .u32 _) rfl) (TP (v := .bool _) rfl) ?_
   replace hst := hst.pick (.cons (.there (.here)) .nil)
   exact .inr (.inr (.inr ⟨hk10, hd10, Classical.not_not.1 g1, rfl, hst.noD⟩))
end Go.SK
namespace Go.SK
open Go Go.Proofs
theorem ty24 : TyF Tryd.prog 24 (.struct (fieldsOf Tryd.prog 24)) 2 8 [.int .u32 0, .int .u32 0] := TyF.of (by kernel_rfl) (by kernel_rfl)
theorem stf24 : StructF Tryd.prog 24 [(0, 1), (1, 1)] := ⟨fieldsOf Tryd.prog 24, by kernel_rfl, fun w => by kernel_rfl⟩
theorem ent33 : Enters Tryd.prog 33 := ⟨Tryd.f33, _, Tryd.func33, by kernel_rfl, rfl⟩
end Go.SK
namespace Go.SK
open Go Go.Proofs
open Go.RowKit
theorem R6as_head (bq : Nat) (s : Tx) (ao : Option Addr) (cp : Nat) (l : List TokL) (bound e p : Int) (w : World) (hB : (Res.row bq 53 [str s, .slice ao l.length cp, .int .i64 ((0 : Nat) : Int), .int .u32 bound, .int .i64 e, .int .i64 p]).holds w) (hT : (Res.sl ao l.length cp 43 3 (l.flatMap tokC)).holds w) (hTA : Apart (Res.row bq 53 [str s, .slice ao l.length cp, .int .i64 ((0 : Nat) : Int), .int .u32 bound, .int .i64 e, .int .i64 p]) (Res.sl ao l.length cp 43 3 (l.flatMap tokC))) (hl : s.length ≤ 1099511627776) (hll : l.length ≤ s.length) (hts : wsz l ≤ 7 * s.length) (hG : LxG.holds w) (hGA : Apart (Res.row bq 53 [str s, .slice ao l.length cp, .int .i64 ((0 : Nat) : Int), .int .u32 bound, .int .i64 e, .int .i64 p]) LxG) : Ret Tryd.prog 15 #[.pointer (some ⟨bq, 0, none⟩)] w (fun v w' => (∃ q : Int × Int, headL s.length l = ((0, 0), q) ∧ q.1 ≠ 0 ∧ v = .tuple #[.agg #[.int .u32 0, .int .u32 0], .bool false] ∧ ∃ a' : Int, St w (Res.row bq 53 [str s, .slice ao l.length cp, .int .i64 ((0 : Nat) : Int), .int .u32 bound, .int .i64 e, .int .i64 p]).foot [Res.row bq 53 [str s, .slice ao l.length cp, .int .i64 (a' : Int), .int .u32 bound, .int .i64 q.1, .int .i64 q.2]] [] w') ∨ (∃ gn bd : Int, headL s.length l = ((gn, bd), (0, 0)) ∧ v = .tuple #[.agg #[.int .u32 gn, .int .u32 bd], .bool true] ∧ ∃ a' : Int, St w (Res.row bq 53 [str s, .slice ao l.length cp, .int .i64 ((0 : Nat) : Int), .int .u32 bound, .int .i64 e, .int .i64 p]).foot [Res.row bq 53 [str s, .slice ao l.length cp, .int .i64 (a' : Int), .int .u32 bound, .int .i64 e, .int .i64 p]] [] w')) := by
 refine Ret.enter (args := [.pointer (some ⟨bq, 0, none⟩)]) Tryd.func15 rfl rfl rfl ?_
 have hst : St w (Res.row bq 53 [str s, .slice ao l.length cp, .int .i64 ((0 : Nat) : Int), .int .u32 bound, .int .i64 e, .int .i64 p]).foot [Res.row bq 53 [str s, .slice ao l.length cp, .int .i64 ((0 : Nat) : Int), .int .u32 bound, .int .i64 e, .int .i64 p]] [Res.sl ao l.length cp 43 3 (l.flatMap tokC), LxG] w := St.enter1 hB (by simp only [List.forall_mem_cons]; exact ⟨hT, hG, fun _ h => absurd h List.not_mem_nil⟩) (by simp only [List.forall_mem_cons]; exact ⟨hTA, hGA, fun _ h => absurd h List.not_mem_nil⟩)
 have hnu := numLx_u32 (l.getD 2 tok0).text
 refine SR <| CN <| Op1.alloc hst ty24 fun w b2 hst => AB rfl <| NSR <| MP rfl ?_
 replace hst := hst.pick (.cons (.there (.here)) (.cons (.here) .nil))
 refine CN (Op1.call2 (v1 := .pointer (some ⟨_, _, none⟩)) (v2 := .int .u8 _) ent31 rfl rfl rfl ((R6as_take _ _ _ _ l 0 _ _ _ 1 _ (hst.hL _ (.head _)) (hst.hD _ (.head _)) (hst.sepD _ (.head _) _ (.head _)) hl hll hts).mono fun v w hp => ?_))
 rcases hp with ⟨hk11, rfl, hp⟩ | ⟨hk11, hd11, rfl, hp⟩ | ⟨hk11, hd11, rfl, hp⟩
 · skip
   replace hst := hst.call1 hp
   clear hp
   refine CN <| Op1.move (v := .tuple #[.agg #[.int .u8 _, str _, .int .i64 _], .bool _]) rfl <| CN <| Op1.extract (v := .agg #[.int .u8 _, str _, .int .i64 _]) rfl rfl <| CN <| Op1.extract (v := .bool _) rfl rfl <| CN <| Op1.alloc hst ty43 fun w b4 hst => CN (SO (v := .agg #[.int .u8 _, str _, .int .i64 _]) hst ty43 rfl rfl (.here) fun w hst => ?_)
   refine AB rfl <| NL <| SQ <| SR <| MB rfl <| CN <| Op1.not rfl <| NL <| run_cond_true (congrArg Value.bool (congrArg not (rfl : false = _))) <| SR <| CN (Op1.buildStruct ty24 stf24 .nil ?_)
   refine CN (SO (v := .agg #[.int .u32 _, .int .u32 _]) hst ty24 rfl rfl (.there (.there (.here))) fun w hst => ?_)
   refine AB rfl <| NL <| run_ret2 Tryd.func15 rfl (RV.cellA (vs := [.int .u32 _, .int .u32 _]) rfl ty24 rfl rfl (cells_of_obj (n := 2) (hst.objL (.tail _ (.tail _ (.head _)))) _ rfl)) (TP (v := .bool _) rfl) ?_
   replace hst := hst.pick (.cons (.there (.here)) .nil)
   refine .inl ⟨(72, s.length), head0 (by omega), (show (72 : Int) ≠ 0 by decide), rfl, _, hst.noD⟩
 · skip
   replace hst := hst.call1 hp
   clear hp
   refine CN <| Op1.move (v := .tuple #[.agg #[.int .u8 _, str _, .int .i64 _], .bool _]) rfl <| CN <| Op1.extract (v := .agg #[.int .u8 _, str _, .int .i64 _]) rfl rfl <| CN <| Op1.extract (v := .bool _) rfl rfl <| CN <| Op1.alloc hst ty43 fun w b4 hst => CN (SO (v := .agg #[.int .u8 _, str _, .int .i64 _]) hst ty43 rfl rfl (.here) fun w hst => ?_)
   refine AB rfl <| NL <| SQ <| SR <| MB rfl <| CN <| Op1.not rfl <| NL <| run_cond_true (congrArg Value.bool (congrArg not (rfl : false = _))) <| SR <| CN (Op1.buildStruct ty24 stf24 .nil ?_)
   refine CN (SO (v := .agg #[.int .u32 _, .int .u32 _]) hst ty24 rfl rfl (.there (.there (.here))) fun w hst => ?_)
   refine AB rfl <| NL <| run_ret2 Tryd.func15 rfl (RV.cellA (vs := [.int .u32 _, .int .u32 _]) rfl ty24 rfl rfl (cells_of_obj (n := 2) (hst.objL (.tail _ (.tail _ (.head _)))) _ rfl)) (TP (v := .bool _) rfl) ?_
   replace hst := hst.pick (.cons (.there (.here)) .nil)
   refine .inl ⟨(70, (l.getD 0 tok0).at_), head1 (by omega) (.inl hd11), (show (70 : Int) ≠ 0 by decide), rfl, _, hst.noD⟩
 · skip
   replace hst := hst.call1 hp
   clear hp
   refine CN <| Op1.move (v := .tuple #[.agg #[.int .u8 _, str _, .int .i64 _], .bool _]) rfl <| CN <| Op1.extract (v := .agg #[.int .u8 _, str _, .int .i64 _]) rfl rfl <| CN <| Op1.extract (v := .bool _) rfl rfl <| CN <| Op1.alloc hst ty43 fun w b4 hst => CN (SO (v := .agg #[.int .u8 _, str _, .int .i64 _]) hst ty43 rfl rfl (.here) fun w hst => ?_)
   refine AB rfl <| NL <| SQ <| SR <| MB rfl <| CN <| Op1.not rfl <| NL <| run_cond_false (congrArg Value.bool (congrArg not (rfl : true = _))) <| run_skip <| SQ <| SR <| CN <| Op1.fieldAddr fld43_1 rfl <| CN (Op1.load1 (v := str _) ty9 rfl rfl (hst.cellL (.head _) rfl) ?_)
   refine CN <| Op1.neqS rfl rfl <| NL <| run_cond_dec rfl (fun g1 => ?_) (fun g1 => ?_)
   · skip
     refine SR <| CN (Op1.buildStruct ty24 stf24 .nil ?_)
     refine MP rfl <| CN <| Op1.fieldAddr fld43_2 rfl <| CN (Op1.load1 (v := .int .i64 _) ty3 rfl rfl (hst.cellL (.head _) rfl) ?_)
     replace hst := hst.pick (.cons (.there (.here)) (.cons (.here) (.cons (.here) .nil)))
     refine CN (Op1.call3 (v1 := .pointer (some ⟨_, _, none⟩)) (v2 := .int .i64 _) (v3 := .int .i64 _) ent32 rfl rfl rfl rfl ((R6as_fails _ _ _ _ _ _ _ e p _ _ _ (hst.hL _ (.head _))).mono fun v w hp => ?_))
     obtain ⟨rfl, hp⟩ := hp
     replace hst := hst.call1 hp
     clear hp
     refine CN (SO (v := .agg #[.int .u32 _, .int .u32 _]) hst ty24 rfl rfl (.there (.there (.here))) fun w hst => ?_)
     refine AB rfl <| NL <| run_ret2 Tryd.func15 rfl (RV.cellA (vs := [.int .u32 _, .int .u32 _]) rfl ty24 rfl rfl (cells_of_obj (n := 2) (hst.objL (.tail _ (.tail _ (.head _)))) _ rfl)) (TP (v := .bool _) rfl) ?_
     replace hst := hst.pick (.cons (.here) .nil)
     refine .inl ⟨(70, (l.getD 0 tok0).at_), head1 (by omega) (.inr g1), (show (70 : Int) ≠ 0 by decide), rfl, _, hst.noD⟩
   refine run_skip <| SR <| MP rfl ?_
   replace hst := hst.pick (.cons (.there (.here)) (.cons (.here) (.cons (.here) .nil)))
   refine CN (Op1.call1 (v1 := .pointer (some ⟨_, _, none⟩)) ent33 rfl rfl ((R6as_number _ _ _ _ l 1 _ _ _ _ (hst.hL _ (.head _)) (hst.hD _ (.head _)) (hst.sepD _ (.head _) _ (.head _)) hl hll hts (hst.hD _ (.tail _ (.head _))) (hst.sepD _ (.head _) _ (.tail _ (.head _)))).mono fun v w hp => ?_))
   rcases hp with ⟨hk27, rfl, hp⟩ | ⟨hk27, hd27, rfl, hp⟩ | ⟨hk27, hd27, he27, rfl, hp⟩ | ⟨hk27, hd27, he27, rfl, hp⟩
   · skip
     replace hst := hst.call1 hp
     clear hp
     refine CN <| Op1.move (v := .tuple #[.int .u32 _, .bool _]) rfl <| CN <| Op1.extract (v := .int .u32 _) rfl rfl <| CN <| Op1.extract (v := .bool _) rfl rfl <| AU rfl <| AB rfl <| NL <| Run.forget [(0, .pointer (some ⟨_, _, none⟩)), (2, .pointer (some ⟨_, _, none⟩)), (5, .bool _), (6, .int .u32 _)] ⟨rfl, rfl, rfl, rfl, trivial⟩ fun f => SQ <| SR <| MB rfl <| CN <| Op1.not rfl <| NL <| run_cond_true (congrArg Value.bool (congrArg not (rfl : false = _))) <| SQ ?_
     refine RG <| CN (Op1.buildStruct ty24 stf24 .nil ?_)
     refine CN (SO (v := .agg #[.int .u32 _, .int .u32 _]) hst ty24 rfl rfl (.there (.there (.here))) fun w hst => ?_)
     refine AB rfl <| NL <| run_ret2 Tryd.func15 rfl (RV.cellA (vs := [.int .u32 _, .int .u32 _]) rfl ty24 rfl rfl (cells_of_obj (n := 2) (hst.objL (.tail _ (.tail _ (.head _)))) _ rfl)) (TP (v := .bool _) rfl) ?_
     replace hst := hst.pick (.cons (.here) .nil)
     refine .inl ⟨(72, s.length), head2 hd11 (Classical.not_not.1 g1) (by omega), (show (72 : Int) ≠ 0 by decide), rfl, _, hst.noD⟩
   · skip
     replace hst := hst.call1 hp
     clear hp
     refine CN <| Op1.move (v := .tuple #[.int .u32 _, .bool _]) rfl <| CN <| Op1.extract (v := .int .u32 _) rfl rfl <| CN <| Op1.extract (v := .bool _) rfl rfl <| AU rfl <| AB rfl <| NL <| Run.forget [(0, .pointer (some ⟨_, _, none⟩)), (2, .pointer (some ⟨_, _, none⟩)), (5, .bool _), (6, .int .u32 _)] ⟨rfl, rfl, rfl, rfl, trivial⟩ fun f => SQ <| SR <| MB rfl <| CN <| Op1.not rfl <| NL <| run_cond_true (congrArg Value.bool (congrArg not (rfl : false = _))) <| SQ ?_
     refine RG <| CN (Op1.buildStruct ty24 stf24 .nil ?_)
     refine CN (SO (v := .agg #[.int .u32 _, .int .u32 _]) hst ty24 rfl rfl (.there (.there (.here))) fun w hst => ?_)
     refine AB rfl <| NL <| run_ret2 Tryd.func15 rfl (RV.cellA (vs := [.int .u32 _, .int .u32 _]) rfl ty24 rfl rfl (cells_of_obj (n := 2) (hst.objL (.tail _ (.tail _ (.head _)))) _ rfl)) (TP (v := .bool _) rfl) ?_
     replace hst := hst.pick (.cons (.here) .nil)
     refine .inl ⟨(70, (l.getD 1 tok0).at_), (by rw [head3 hd11 (Classical.not_not.1 g1) (by omega), if_pos hd27]), (show (70 : Int) ≠ 0 by decide), rfl, _, hst.noD⟩
   · skip
     replace hst := hst.call1 hp
     clear hp
     refine CN <| Op1.move (v := .tuple #[.int .u32 _, .bool _]) rfl <| CN <| Op1.extract (v := .int .u32 _) rfl rfl <| CN <| Op1.extract (v := .bool _) rfl rfl <| AU rfl <| AB rfl <| NL <| Run.forget [(0, .pointer (some ⟨_, _, none⟩)), (2, .pointer (some ⟨_, _, none⟩)), (5, .bool _), (6, .int .u32 _)] ⟨rfl, rfl, rfl, rfl, trivial⟩ fun f => SQ <| SR <| MB rfl <| CN <| Op1.not rfl <| NL <| run_cond_true (congrArg Value.bool (congrArg not (rfl : false = _))) <| SQ ?_
     refine RG <| CN (Op1.buildStruct ty24 stf24 .nil ?_)
     refine CN (SO (v := .agg #[.int .u32 _, .int .u32 _]) hst ty24 rfl rfl (.there (.there (.here))) fun w hst => ?_)
     refine AB rfl <| NL <| run_ret2 Tryd.func15 rfl (RV.cellA (vs := [.int .u32 _, .int .u32 _]) rfl ty24 rfl rfl (cells_of_obj (n := 2) (hst.objL (.tail _ (.tail _ (.head _)))) _ rfl)) (TP (v := .bool _) rfl) ?_
     replace hst := hst.pick (.cons (.here) .nil)
     refine .inl ⟨((numLx (l.getD 1 tok0).text).2, (l.getD 1 tok0).at_), (by rw [head3 hd11 (Classical.not_not.1 g1) (by omega), if_neg (fun q => q hd27), if_pos he27]), he27, rfl, _, hst.noD⟩
   · skip
     replace hst := hst.call1 hp
     clear hp
     refine CN <| Op1.move (v := .tuple #[.int .u32 _, .bool _]) rfl <| CN <| Op1.extract (v := .int .u32 _) rfl rfl <| CN <| Op1.extract (v := .bool _) rfl rfl <| AU rfl <| AB rfl <| NL <| Run.forget [(0, .pointer (some ⟨_, _, none⟩)), (2, .pointer (some ⟨_, _, none⟩)), (5, .bool _), (6, .int .u32 _)] ⟨rfl, rfl, rfl, rfl, trivial⟩ fun f => SQ <| SR <| MB rfl <| CN <| Op1.not rfl <| NL <| run_cond_false (congrArg Value.bool (congrArg not (rfl : true = _))) <| run_skip ?_
     refine SR <| MP rfl <| CN <| Op1.nilCheckP rfl <| CN <| Op1.fieldAddr fld53_0 rfl <| CN <| Op1.load1 (v := str _) ty9 rfl rfl (hst.cellL (.head _) rfl) <| CN <| Op1.lenS (rest := []) ty9 rfl <| AI rfl <| NL <| SQ <| SR <| MP rfl <| CN (Op1.call1 (v1 := .pointer (some ⟨_, _, none⟩)) ent34 rfl rfl ((R6as_more _ _ _ _ _ 2 _ _ _ _ (hst.hL _ (.head _))).mono fun v w hp => ?_))
     obtain ⟨rfl, hp⟩ := hp
     replace hst := hst.call1 hp
     clear hp
     refine NL <| run_cond_dec rfl (fun g2 => ?_) (fun g2 => ?_)
     · skip
       obtain ⟨bs3, rfl⟩ := Res.sl_some (hst.hD _ (.head _)) (by omega)
       refine RunD.start [] hst (bs := [0, 1, 3, 7, 0, 16, 48, 112, 255, 511, 1023, 2047]) (ds := [some 40, some 41, some 42, some 43, some 44, some 45, some 46, some 47, some 48, some 49, some 50, some 7]) ⟨by kernel_rfl, by kernel_rfl, by kernel_rfl⟩ (fun tab4 => ?_)
       refine RunD.op (det _) tab4 1 (fun f' L' w' hc => Op1.move (v := .pointer (some ⟨_, _, none⟩)) (hc.old (v := .pointer (some ⟨_, _, none⟩)) rfl rfl rfl) ⟨[], ⟨rfl, rfl⟩, hc.st⟩) <| RunD.op (det _) tab4 2 (fun f' L' w' hc => Op1.nilCheckP (hc.det (j := 0) rfl rfl rfl rfl) ⟨[], ⟨rfl, rfl⟩, hc.st⟩) <| RunD.op (det _) tab4 3 (fun f' L' w' hc => Op1.fieldAddr fld53_1 (hc.det (j := 1) rfl rfl rfl rfl) ⟨[], ⟨rfl, rfl⟩, hc.st⟩) <| RunD.op (det _) tab4 4 (fun f' L' w' hc => Op1.load1 (v := .slice _ _ _) ty39 rfl (hc.det (j := 2) rfl rfl rfl rfl) (hc.st.cellL (List.mem_append_right _ (.head _)) rfl) ⟨[], ⟨rfl, rfl⟩, hc.st⟩) <| RunD.op (det _) tab4 5 (fun f' L' w' hc => Op1.move (v := .pointer (some ⟨_, _, none⟩)) (hc.old (v := .pointer (some ⟨_, _, none⟩)) rfl rfl rfl) ⟨[], ⟨rfl, rfl⟩, hc.st⟩) <| RunD.op (det _) tab4 6 (fun f' L' w' hc => Op1.nilCheckP (hc.det (j := 4) rfl rfl rfl rfl) ⟨[], ⟨rfl, rfl⟩, hc.st⟩) <| RunD.op (det _) tab4 7 (fun f' L' w' hc => Op1.fieldAddr fld53_2 (hc.det (j := 5) rfl rfl rfl rfl) ⟨[], ⟨rfl, rfl⟩, hc.st⟩) <| RunD.op (det _) tab4 8 (fun f' L' w' hc => Op1.load1 (v := .int .i64 _) ty3 rfl (hc.det (j := 6) rfl rfl rfl rfl) (hc.st.cellL (List.mem_append_right _ (.head _)) rfl) ⟨[], ⟨rfl, rfl⟩, hc.st⟩) <| RunD.fin followsMixed tab4 hst rfl (fun f5 w R8 hs6 hd7 hr9 hst => ?_)
       obtain ⟨h40_, r0⟩ := hd7 0 40 rfl rfl
       obtain ⟨h41_, r1⟩ := hd7 1 41 rfl rfl
       obtain ⟨h42_, r2⟩ := hd7 2 42 rfl rfl
       obtain ⟨h43_, r3⟩ := hd7 3 43 rfl rfl
       obtain ⟨h44_, r4⟩ := hd7 4 44 rfl rfl
       obtain ⟨h45_, r5⟩ := hd7 5 45 rfl rfl
       obtain ⟨h46_, r6⟩ := hd7 6 46 rfl rfl
       obtain ⟨h47_, r7⟩ := hd7 7 47 rfl rfl
       simp only [show List.range 8 = [0, 1, 2, 3, 4, 5, 6, 7] from rfl, List.flatMap_cons, List.flatMap_nil, List.map_cons, List.map_nil, r0, r1, r2, r3, r4, r5, r6, r7, List.nil_append, List.append_nil, List.cons_append] at hst
       refine RunL.slots (sl := [(0, .pointer (some ⟨_, _, none⟩)), (2, .pointer (some ⟨_, _, none⟩)), (6, .int .u32 _), (43, .slice _ _ _), (47, .int .i64 _)]) ⟨(hs6 0 rfl).trans rfl, (hs6 2 rfl).trans rfl, (hs6 6 rfl).trans rfl, h43_, h47_, trivial⟩ ?_
       clear hs6 hd7 hr9 tab4
       refine CN <| Op1.indexSl ty39 ty43 rfl rfl (by omega) (by omega) <| CN <| Op1.fieldAddr fld43_2 rfl <| CN <| Op1.load1 (v := .int .i64 _) ty3 rfl rfl (Res.sl_cell (hst.hD _ (.head _)) (flat_cell (g := tokC) (d := tok0) tokC_len rfl (by omega))) <| AI rfl <| NL <| Run.forget [(0, .pointer (some ⟨_, _, none⟩)), (2, .pointer (some ⟨_, _, none⟩)), (6, .int .u32 _), (7, .int .i64 _)] ⟨rfl, rfl, rfl, rfl, trivial⟩ fun f => SR <| MP rfl <| CN (Op1.call1 (v1 := .pointer (some ⟨_, _, none⟩)) ent33 rfl rfl ((R6as_number _ _ _ _ l 2 _ _ _ _ (hst.hL _ (.head _)) (hst.hD _ (.head _)) (hst.sepD _ (.head _) _ (.head _)) hl hll hts (hst.hD _ (.tail _ (.head _))) (hst.sepD _ (.head _) _ (.tail _ (.head _)))).mono fun v w hp => ?_))
       rcases hp with ⟨hk53, rfl, hp⟩ | ⟨hk53, hd53, rfl, hp⟩ | ⟨hk53, hd53, he53, rfl, hp⟩ | ⟨hk53, hd53, he53, rfl, hp⟩
       · skip
         exfalso; omega
       · skip
         replace hst := hst.call1 hp
         clear hp
         refine CN <| Op1.move (v := .tuple #[.int .u32 _, .bool _]) rfl <| CN <| Op1.extract (v := .int .u32 _) rfl rfl <| CN <| Op1.extract (v := .bool _) rfl rfl <| AU rfl <| AB rfl <| NL <| SQ <| run_block <| SR <| MB rfl <| CN <| Op1.not rfl <| AB rfl <| NL <| run_cond_true (congrArg Value.bool (congrArg not (rfl : false = _))) ?_
         refine SR <| CN (Op1.buildStruct ty24 stf24 .nil ?_)
         refine CN (SO (v := .agg #[.int .u32 _, .int .u32 _]) hst ty24 rfl rfl (.there (.there (.here))) fun w hst => ?_)
         refine AB rfl <| NL <| run_ret2 Tryd.func15 rfl (RV.cellA (vs := [.int .u32 _, .int .u32 _]) rfl ty24 rfl rfl (cells_of_obj (n := 2) (hst.objL (.tail _ (.tail _ (.head _)))) _ rfl)) (TP (v := .bool _) rfl) ?_
         replace hst := hst.pick (.cons (.here) .nil)
         refine .inl ⟨(70, (l.getD 2 tok0).at_), (by rw [head3 hd11 (Classical.not_not.1 g1) (by omega), if_neg (fun q => q hd27), if_neg (fun q => q he27), if_neg (by omega), if_pos hd53]), (show (70 : Int) ≠ 0 by decide), rfl, _, hst.noD⟩
       · skip
         replace hst := hst.call1 hp
         clear hp
         refine CN <| Op1.move (v := .tuple #[.int .u32 _, .bool _]) rfl <| CN <| Op1.extract (v := .int .u32 _) rfl rfl <| CN <| Op1.extract (v := .bool _) rfl rfl <| AU rfl <| AB rfl <| NL <| SQ <| run_block <| SR <| MB rfl <| CN <| Op1.not rfl <| AB rfl <| NL <| run_cond_true (congrArg Value.bool (congrArg not (rfl : false = _))) ?_
         refine SR <| CN (Op1.buildStruct ty24 stf24 .nil ?_)
         refine CN (SO (v := .agg #[.int .u32 _, .int .u32 _]) hst ty24 rfl rfl (.there (.there (.here))) fun w hst => ?_)
         refine AB rfl <| NL <| run_ret2 Tryd.func15 rfl (RV.cellA (vs := [.int .u32 _, .int .u32 _]) rfl ty24 rfl rfl (cells_of_obj (n := 2) (hst.objL (.tail _ (.tail _ (.head _)))) _ rfl)) (TP (v := .bool _) rfl) ?_
         replace hst := hst.pick (.cons (.here) .nil)
         refine .inl ⟨((numLx (l.getD 2 tok0).text).2, (l.getD 2 tok0).at_), (by rw [head3 hd11 (Classical.not_not.1 g1) (by omega), if_neg (fun q => q hd27), if_neg (fun q => q he27), if_neg (by omega), if_neg (fun q => q hd53), if_pos he53]), he53, rfl, _, hst.noD⟩
       · skip
         replace hst := hst.call1 hp
         clear hp
         refine CN <| Op1.move (v := .tuple #[.int .u32 _, .bool _]) rfl <| CN <| Op1.extract (v := .int .u32 _) rfl rfl <| CN <| Op1.extract (v := .bool _) rfl rfl <| AU rfl <| AB rfl <| NL <| SQ <| run_block <| SR <| MB rfl <| CN <| Op1.not rfl <| AB rfl <| NL <| run_cond_false (congrArg Value.bool (congrArg not (rfl : true = _))) ?_
         refine SR <| MU rfl <| CN <| Op1.eql rfl rfl <| MB rfl <| RunL.splitD (d := 63) rfl (fun g10 => ?_) (fun g10 => ?_)
         · skip
           refine OM (t := 63) rfl (congrArg Value.bool (decide_eq_true g10)) rfl <| OM (t := 63) rfl (congrArg Value.bool (decide_eq_true g10)) rfl <| CN <| Op1.pickT (u := .bool _) (congrArg Value.bool (decide_eq_true g10)) rfl <| AB rfl <| NL <| run_cond_true (congrArg Value.bool (rfl : true = _)) <| SR <| CN (Op1.buildStruct ty24 stf24 .nil ?_)
           refine MP rfl <| MI rfl <| CN (Op1.call3 (v1 := .pointer (some ⟨_, _, none⟩)) (v2 := .int .i64 _) (v3 := .int .i64 _) ent32 rfl rfl rfl rfl ((R6as_fails _ _ _ _ _ _ _ e p _ _ _ (hst.hL _ (.head _))).mono fun v w hp => ?_))
           obtain ⟨rfl, hp⟩ := hp
           replace hst := hst.call1 hp
           clear hp
           refine CN (SO (v := .agg #[.int .u32 _, .int .u32 _]) hst ty24 rfl rfl (.there (.there (.here))) fun w hst => ?_)
           refine AB rfl <| NL <| run_ret2 Tryd.func15 rfl (RV.cellA (vs := [.int .u32 _, .int .u32 _]) rfl ty24 rfl rfl (cells_of_obj (n := 2) (hst.objL (.tail _ (.tail _ (.head _)))) _ rfl)) (TP (v := .bool _) rfl) ?_
           replace hst := hst.pick (.cons (.here) .nil)
           refine .inl ⟨(24, (l.getD 2 tok0).at_), (by rw [head3 hd11 (Classical.not_not.1 g1) (by omega), if_neg (fun q => q hd27), if_neg (fun q => q he27), if_neg (by omega), if_neg (fun q => q hd53), if_neg (fun q => q he53), if_pos (by omega)]), (show (24 : Int) ≠ 0 by decide), rfl, _, hst.noD⟩
         refine TK (t := 63) rfl (congrArg Value.bool (decide_eq_false g10)) <| Op1.move (v := .int .u32 _) rfl <| TK (t := 63) rfl (congrArg Value.bool (decide_eq_false g10)) <| Op1.gtr rfl rfl <| CN <| Op1.pickF (u := .bool _) (congrArg Value.bool (decide_eq_false g10)) rfl <| AB rfl <| NL <| run_cond_dec rfl (fun g11 => ?_) (fun g11 => ?_)
         · skip
           refine SR <| CN (Op1.buildStruct ty24 stf24 .nil ?_)
           refine MP rfl <| MI rfl <| CN (Op1.call3 (v1 := .pointer (some ⟨_, _, none⟩)) (v2 := .int .i64 _) (v3 := .int .i64 _) ent32 rfl rfl rfl rfl ((R6as_fails _ _ _ _ _ _ _ e p _ _ _ (hst.hL _ (.head _))).mono fun v w hp => ?_))
           obtain ⟨rfl, hp⟩ := hp
           replace hst := hst.call1 hp
           clear hp
           refine CN (SO (v := .agg #[.int .u32 _, .int .u32 _]) hst ty24 rfl rfl (.there (.there (.here))) fun w hst => ?_)
           refine AB rfl <| NL <| run_ret2 Tryd.func15 rfl (RV.cellA (vs := [.int .u32 _, .int .u32 _]) rfl ty24 rfl rfl (cells_of_obj (n := 2) (hst.objL (.tail _ (.tail _ (.head _)))) _ rfl)) (TP (v := .bool _) rfl) ?_
           replace hst := hst.pick (.cons (.here) .nil)
           refine .inl ⟨(24, (l.getD 2 tok0).at_), (by rw [head3 hd11 (Classical.not_not.1 g1) (by omega), if_neg (fun q => q hd27), if_neg (fun q => q he27), if_neg (by omega), if_neg (fun q => q hd53), if_neg (fun q => q he53), if_pos (by omega)]), (show (24 : Int) ≠ 0 by decide), rfl, _, hst.noD⟩
         refine SR <| MP rfl <| CN (Op1.call1 (v1 := .pointer (some ⟨_, _, none⟩)) ent34 rfl rfl ((R6as_more _ _ _ _ _ 3 _ _ _ _ (hst.hL _ (.head _))).mono fun v w hp => ?_))
         obtain ⟨rfl, hp⟩ := hp
         replace hst := hst.call1 hp
         clear hp
         refine AB rfl <| NL <| Run.forget [(0, .pointer (some ⟨_, _, none⟩)), (2, .pointer (some ⟨_, _, none⟩)), (6, .int .u32 _), (8, .int .u32 _), (71, .bool _)] ⟨rfl, rfl, rfl, rfl, rfl, trivial⟩ fun f => run_cond_dec rfl (fun g12 => ?_) (fun g12 => ?_)
         · skip
           refine SQ ?_
           apply RunD.start [(13, Res.row bq 53 _, Res.emp)] hst (bs := [0, 0, 0, 4, 12, 28, 0, 64, 192, 448, 1020, 2044, 4092, 8190, 16383, 32767]) (ds := [some 74, some 75, some 76, some 77, some 78, some 79, some 80, some 81, some 82, some 83, some 84, some 85, some 86, some 87, none, some 3]) (htab := ⟨by kernel_rfl, by kernel_rfl, by kernel_rfl⟩)
           intro tab13
           refine RunD.op (det _) tab13 1 (fun f' L' w' hc => Op1.buildStruct ty24 stf24 .nil ⟨[], ⟨rfl, rfl⟩, hc.st⟩) ?_
           refine RunD.op (det _) tab13 2 (fun f' L' w' hc => Op1.move (v := .pointer (some ⟨_, _, none⟩)) (hc.old (v := .pointer (some ⟨_, _, none⟩)) rfl rfl rfl) ⟨[], ⟨rfl, rfl⟩, hc.st⟩) <| RunD.op (det _) tab13 3 (fun f' L' w' hc => Op1.move (v := .pointer (some ⟨_, _, none⟩)) (hc.old (v := .pointer (some ⟨_, _, none⟩)) rfl rfl rfl) ⟨[], ⟨rfl, rfl⟩, hc.st⟩) <| RunD.op (det _) tab13 4 (fun f' L' w' hc => Op1.nilCheckP (hc.det (j := 2) rfl rfl rfl rfl) ⟨[], ⟨rfl, rfl⟩, hc.st⟩) <| RunD.op (det _) tab13 5 (fun f' L' w' hc => Op1.fieldAddr fld53_1 (hc.det (j := 3) rfl rfl rfl rfl) ⟨[], ⟨rfl, rfl⟩, hc.st⟩) <| RunD.opP (det _) tab13 6 (fun f' L' w' hc hlate => Op1.load1 (v := .slice _ _ _) ty39 rfl (hc.det (j := 4) rfl rfl rfl rfl) (hc.st.cellL (List.mem_append_left _ (hlate _ _ _ (.head _) rfl)) rfl) ⟨[], ⟨rfl, rfl⟩, hc.st⟩) <| RunD.op (det _) tab13 7 (fun f' L' w' hc => Op1.move (v := .pointer (some ⟨_, _, none⟩)) (hc.old (v := .pointer (some ⟨_, _, none⟩)) rfl rfl rfl) ⟨[], ⟨rfl, rfl⟩, hc.st⟩) <| RunD.op (det _) tab13 8 (fun f' L' w' hc => Op1.nilCheckP (hc.det (j := 6) rfl rfl rfl rfl) ⟨[], ⟨rfl, rfl⟩, hc.st⟩) <| RunD.op (det _) tab13 9 (fun f' L' w' hc => Op1.fieldAddr fld53_2 (hc.det (j := 7) rfl rfl rfl rfl) ⟨[], ⟨rfl, rfl⟩, hc.st⟩) <| RunD.opP (det _) tab13 10 (fun f' L' w' hc hlate => Op1.load1 (v := .int .i64 _) ty3 rfl (hc.det (j := 8) rfl rfl rfl rfl) (hc.st.cellL (List.mem_append_left _ (hlate _ _ _ (.head _) rfl)) rfl) ⟨[], ⟨rfl, rfl⟩, hc.st⟩) <| RunD.op (det _) tab13 11 (fun f' L' w' hc => Op1.indexSl ty39 ty43 (hc.det (j := 5) rfl rfl rfl rfl) (hc.det (j := 9) rfl rfl rfl rfl) (by omega) (by omega) ⟨[], ⟨rfl, rfl⟩, hc.st⟩) <| RunD.op (det _) tab13 12 (fun f' L' w' hc => Op1.fieldAddr fld43_2 (hc.det (j := 10) rfl rfl rfl rfl) ⟨[], ⟨rfl, rfl⟩, hc.st⟩) <| RunD.op (det _) tab13 13 (fun f' L' w' hc => Op1.load1 (v := .int .i64 _) ty3 rfl (hc.det (j := 11) rfl rfl rfl rfl) (Res.sl_cell (hc.st.hD _ (.head _)) (flat_cell (g := tokC) (d := tok0) tokC_len rfl (by omega))) ⟨[], ⟨rfl, rfl⟩, hc.st⟩) <| RunD.ownC (fun g v rs => v = .bool false ∧ rs = [Res.row bq 53 [str s, .slice (some ⟨bs3, 0, none⟩) l.length cp, .int .i64 (3 : Int), .int .u32 bound, .int .i64 70, .int .i64 ((l.getD 3 tok0).at_)]]) tab13 14 (.head _) (fun f' L' L'' w' hc ⟨X, hrem, hX⟩ => Op1.call3 (v1 := .pointer (some ⟨_, _, none⟩)) (v2 := .int .i64 _) (v3 := .int .i64 _) ent32 rfl (hc.det (j := 1) rfl rfl rfl rfl) rfl (hc.det (j := 12) rfl rfl rfl rfl) ((R6as_fails bq s _ cp l 3 bound e p 70 ((l.getD 3 tok0).at_) _ (hc.st.hL _ hrem.mem2)).mono fun v w hp => ⟨[_], fun g hg => ⟨hp.1, rfl⟩, hX _ _ (St.callRem hc.st hrem hp.2)⟩)) <| RunD.fin followsMixed tab13 hst rfl (fun f14 w R17 hs15 hd16 hr18 hst => ?_)
           obtain ⟨h74_, r0⟩ := hd16 0 74 rfl rfl
           obtain ⟨h75_, r1⟩ := hd16 1 75 rfl rfl
           obtain ⟨h76_, r2⟩ := hd16 2 76 rfl rfl
           obtain ⟨h77_, r3⟩ := hd16 3 77 rfl rfl
           obtain ⟨h78_, r4⟩ := hd16 4 78 rfl rfl
           obtain ⟨h79_, r5⟩ := hd16 5 79 rfl rfl
           obtain ⟨h80_, r6⟩ := hd16 6 80 rfl rfl
           obtain ⟨h81_, r7⟩ := hd16 7 81 rfl rfl
           obtain ⟨h82_, r8⟩ := hd16 8 82 rfl rfl
           obtain ⟨h83_, r9⟩ := hd16 9 83 rfl rfl
           obtain ⟨h84_, r10⟩ := hd16 10 84 rfl rfl
           obtain ⟨h85_, r11⟩ := hd16 11 85 rfl rfl
           obtain ⟨h86_, r12⟩ := hd16 12 86 rfl rfl
           obtain ⟨h87_, r13⟩ := hd16 13 87 rfl rfl
           simp only [show List.range 14 = [0, 1, 2, 3, 4, 5, 6, 7, 8, 9, 10, 11, 12, 13] from rfl, List.flatMap_cons, List.flatMap_nil, List.map_cons, List.map_nil, r0, r1, r2, r3, r4, r5, r6, r7, r8, r9, r10, r11, r12, r13, List.nil_append, List.append_nil, List.cons_append] at hst
           refine RunL.slots (sl := [(2, .pointer (some ⟨_, _, none⟩)), (74, .agg #[.int .u32 _, .int .u32 _]), (87, .bool _)]) ⟨(hs15 2 rfl).trans rfl, h74_, h87_, trivial⟩ ?_
           clear hs15 hd16 hr18 tab13
           refine CN (SO (v := .agg #[.int .u32 _, .int .u32 _]) hst ty24 rfl rfl (.there (.there (.there (.here)))) fun w hst => ?_)
           refine AB rfl <| NL <| run_ret2 Tryd.func15 rfl (RV.cellA (vs := [.int .u32 _, .int .u32 _]) rfl ty24 rfl rfl (cells_of_obj (n := 2) (hst.objL (.tail _ (.tail _ (.tail _ (.head _))))) _ rfl)) (TP (v := .bool _) rfl) ?_
           replace hst := hst.pick (.cons (.here) .nil)
           refine .inl ⟨(70, (l.getD 3 tok0).at_), (by rw [head3 hd11 (Classical.not_not.1 g1) (by omega), if_neg (fun q => q hd27), if_neg (fun q => q he27), if_neg (by omega), if_neg (fun q => q hd53), if_neg (fun q => q he53), if_neg (by omega), if_pos (by omega)]), (show (70 : Int) ≠ 0 by decide), rfl, _, hst.noD⟩
         refine run_skip <| run_inBlock <| SR <| MU rfl <| MU rfl <| CN (Op1.buildStruct ty24 stf24 (.c (v := .int .u32 _) rfl (h := (.c (v := .int .u32 _) rfl (h := .nil)))) ?_)
         refine CN (SO (v := .agg #[.int .u32 _, .int .u32 _]) hst ty24 rfl rfl (.there (.there (.here))) fun w hst => ?_)
         refine AB rfl <| NL <| run_ret2 Tryd.func15 rfl (RV.cellA (vs := [.int .u32 _, .int .u32 _]) rfl ty24 rfl rfl (cells_of_obj (n := 2) (hst.objL (.tail _ (.tail _ (.head _)))) _ rfl)) (TP (v := .bool _) rfl) ?_
         replace hst := hst.pick (.cons (.here) .nil)
         refine .inr ⟨_, _, (by rw [head3 hd11 (Classical.not_not.1 g1) (by omega), if_neg (fun q => q hd27), if_neg (fun q => q he27), if_neg (by omega), if_neg (fun q => q hd53), if_neg (fun q => q he53), if_neg (by omega), if_neg (by omega)]), rfl, _, hst.noD⟩
     refine run_skip <| SR <| MP rfl <| CN (Op1.call1 (v1 := .pointer (some ⟨_, _, none⟩)) ent33 rfl rfl ((R6as_number _ _ _ _ l 2 _ _ _ _ (hst.hL _ (.head _)) (hst.hD _ (.head _)) (hst.sepD _ (.head _) _ (.head _)) hl hll hts (hst.hD _ (.tail _ (.head _))) (hst.sepD _ (.head _) _ (.tail _ (.head _)))).mono fun v w hp => ?_))
     rcases hp with ⟨hk53, rfl, hp⟩ | ⟨hk53, hd53, rfl, hp⟩ | ⟨hk53, hd53, he53, rfl, hp⟩ | ⟨hk53, hd53, he53, rfl, hp⟩
     · skip
       replace hst := hst.call1 hp
       clear hp
       refine CN <| Op1.move (v := .tuple #[.int .u32 _, .bool _]) rfl <| CN <| Op1.extract (v := .int .u32 _) rfl rfl <| CN <| Op1.extract (v := .bool _) rfl rfl <| AU rfl <| AB rfl <| NL <| SQ <| run_block <| SR <| MB rfl <| CN <| Op1.not rfl <| AB rfl <| NL <| Run.forget [(0, .pointer (some ⟨_, _, none⟩)), (2, .pointer (some ⟨_, _, none⟩)), (6, .int .u32 _), (7, .int .i64 _), (8, .int .u32 _), (56, .bool _)] ⟨rfl, rfl, rfl, rfl, rfl, rfl, trivial⟩ (fun f => ?_)
       refine run_cond_true (congrArg Value.bool (congrArg not (rfl : false = _))) <| SR <| CN (Op1.buildStruct ty24 stf24 .nil ?_)
       refine CN (SO (v := .agg #[.int .u32 _, .int .u32 _]) hst ty24 rfl rfl (.there (.there (.here))) fun w hst => ?_)
       refine AB rfl <| NL <| run_ret2 Tryd.func15 rfl (RV.cellA (vs := [.int .u32 _, .int .u32 _]) rfl ty24 rfl rfl (cells_of_obj (n := 2) (hst.objL (.tail _ (.tail _ (.head _)))) _ rfl)) (TP (v := .bool _) rfl) ?_
       replace hst := hst.pick (.cons (.here) .nil)
       refine .inl ⟨(72, s.length), (by rw [head3 hd11 (Classical.not_not.1 g1) (by omega), if_neg (fun q => q hd27), if_neg (fun q => q he27), if_pos (by omega)]), (show (72 : Int) ≠ 0 by decide), rfl, _, hst.noD⟩
     · skip
       exfalso; omega
     · skip
       exfalso; omega
     · skip
       exfalso; omega
end Go.SK
namespace Go.SK
open Go Go.Proofs
theorem ent30 : Enters Tryd.prog 30 := ⟨Tryd.f30, _, Tryd.func30, by kernel_rfl, rfl⟩
theorem ty53 : TyF Tryd.prog 53 (.struct (fieldsOf Tryd.prog 53)) 6 72 [str [], .slice none 0 0, .int .i64 0, .int .u32 0, .int .i64 0, .int .i64 0] := TyF.of (by kernel_rfl) (by kernel_rfl)
theorem stf53 : StructF Tryd.prog 53 [(0, 1), (1, 1), (2, 1), (3, 1), (4, 2)] := ⟨fieldsOf Tryd.prog 53, by kernel_rfl, fun w => by kernel_rfl⟩
theorem ent14 : Enters Tryd.prog 14 := ⟨Tryd.f14, _, Tryd.func14, by kernel_rfl, rfl⟩
theorem fld27_0 : FldF Tryd.prog 27 0 0 := FldF.of (n := 0) (by kernel_rfl)
theorem ty25 : TyF Tryd.prog 25 (.int .i64) 1 8 [.int .i64 0] := TyF.of (by kernel_rfl) (by kernel_rfl)
theorem ent15 : Enters Tryd.prog 15 := ⟨Tryd.f15, _, Tryd.func15, by kernel_rfl, rfl⟩
end Go.SK
namespace Go.SK
open Go Go.Proofs
open Go.RowKit
theorem R6as_read (s : Tx) (bound : Int) (w : World) (hG : LxG.holds w) (hl : s.length ≤ 1099511627776) : Ret Tryd.prog 14 #[str s, .int .u32 bound] w (fun v w' => ∃ bq ao cp, v = .tuple #[.pointer (some ⟨bq, 0, none⟩), .agg #[.int .i64 (toksF s).2.1, .int .i64 (toksF s).2.2]] ∧ St w NoM [Res.row bq 53 [str s, .slice ao (toksF s).1.length cp, .int .i64 ((0 : Nat) : Int), .int .u32 bound, .int .i64 0, .int .i64 0], Res.sl ao (toksF s).1.length cp 43 3 ((toksF s).1.flatMap tokC)] [] w') := by
 refine Ret.enter (args := [str s, .int .u32 bound]) Tryd.func14 rfl rfl rfl ?_
 have hst : St w NoM [] [LxG] w := St.init_Ds (by simp only [List.forall_mem_cons]; exact ⟨hG, fun _ h => absurd h List.not_mem_nil⟩)
 refine SR <| CN <| Op1.assign (v := _) rfl <| CN <| Op1.alloc hst ty27 fun w b5 hst => NSR <| MS rfl <| CN (Op1.call1 (v1 := str _) ent30 rfl rfl ((R6lx_lTokens s _ (hst.hD _ (.head _)) hl).mono fun v w hp => ?_))
 obtain ⟨ao, cp, rfl, hp⟩ := hp
 replace hst := hst.call0 hp
 clear hp
 refine CN <| Op1.move (v := .tuple #[.slice _ _ _, .agg #[.int .i64 _, .int .i64 _]]) rfl <| CN <| Op1.extract (v := .slice _ _ _) rfl rfl <| CN <| Op1.extract (v := .agg #[.int .i64 _, .int .i64 _]) rfl rfl <| CN <| Op1.alloc hst ty27 fun w b7 hst => AL rfl <| CN (SO (v := .agg #[.int .i64 _, .int .i64 _]) hst ty27 rfl rfl (.here) fun w hst => ?_)
 refine NL <| SQ <| RunD.start [] hst (bs := [0, 0, 0, 7, 15, 0, 31, 127]) (ds := [some 13, some 14, some 15, some 16, some 17, some 18, some 4, none]) ⟨by kernel_rfl, by kernel_rfl, by kernel_rfl⟩ (fun tab1 => ?_)
 refine RunD.op (det _) tab1 1 (fun f' L' w' hc => Op1.move (v := str _) (hc.old (v := str _) rfl rfl rfl) ⟨[], ⟨rfl, rfl⟩, hc.st⟩) <| RunD.op (det _) tab1 2 (fun f' L' w' hc => Op1.move (v := .slice _ _ _) (hc.old (v := .slice _ _ _) rfl rfl rfl) ⟨[], ⟨rfl, rfl⟩, hc.st⟩) <| RunD.op (det _) tab1 3 (fun f' L' w' hc => Op1.move (v := .int .u32 _) (hc.old (v := .int .u32 _) rfl rfl rfl) ⟨[], ⟨rfl, rfl⟩, hc.st⟩) <| RunD.op (det _) tab1 4 (fun f' L' w' hc => Op1.buildStruct ty53 stf53 (.c (v := str _) (hc.det (j := 0) rfl rfl rfl rfl) (h := (.c (v := .slice _ _ _) (hc.det (j := 1) rfl rfl rfl rfl) (h := (.c (v := .int .u32 _) (hc.det (j := 2) rfl rfl rfl rfl) (h := .nil)))))) ⟨[], ⟨rfl, rfl⟩, hc.st⟩) ?_
 refine RunD.op (fun v rs => ∃ b, v = .pointer (some ⟨b, 0, none⟩) ∧ rs = [Res.row b 53 [str s, .slice ao (toksF s).1.length cp, .int .i64 ((0 : Nat) : Int), .int .u32 bound, .int .i64 0, .int .i64 0]]) tab1 5 (fun f' L' w' hc => Op1.box (vs := [str s, .slice ao (toksF s).1.length cp, .int .i64 ((0 : Nat) : Int), .int .u32 bound, .int .i64 0, .int .i64 0]) hc.st (hc.det (j := 3) rfl rfl rfl rfl) rfl fun w b hst => ⟨[_], ⟨b, rfl, rfl⟩, hst⟩) <| RunD.op (det _) tab1 6 (fun f' L' w' hc => Op1.loadA (vs := [.int .i64 _, .int .i64 _]) ty27 rfl (hc.old (v := .pointer (some ⟨_, _, none⟩)) rfl rfl rfl) rfl (cells_of_obj (n := 2) (hc.st.objL (List.mem_append_right _ (.head _))) _ rfl) ⟨[], ⟨rfl, rfl⟩, hc.st⟩) <| RunD.opR (fun g v rs => v = g 17 ∧ rs = []) tab1 7 (fun f' L' w' hc => Op1.assign (v := f' 17) (evs rfl rfl) ⟨[], fun g hg => ⟨(hg 4 17 rfl rfl).symm, rfl⟩, hc.st⟩) <| RunD.fin followsMixed tab1 hst rfl (fun f2 w R5 hs3 hd4 hr6 hst => ?_)
 obtain ⟨h13_, r0⟩ := hd4 0 13 rfl rfl
 obtain ⟨h14_, r1⟩ := hd4 1 14 rfl rfl
 obtain ⟨h15_, r2⟩ := hd4 2 15 rfl rfl
 obtain ⟨h16_, r3⟩ := hd4 3 16 rfl rfl
 obtain ⟨b17, h17_, r4⟩ := hd4 4 17 rfl rfl
 obtain ⟨h18_, r5⟩ := hd4 5 18 rfl rfl
 obtain ⟨h4_, r6⟩ := hd4 6 4 rfl rfl
 rw [DrawTab.mask tab1 _ (j := 6) (l := 4) (t := 17) rfl rfl, h17_] at h4_
 simp only [show List.range 7 = [0, 1, 2, 3, 4, 5, 6] from rfl, List.flatMap_cons, List.flatMap_nil, List.map_cons, List.map_nil, r0, r1, r2, r3, r4, r5, r6, List.nil_append, List.append_nil, List.cons_append] at hst
 refine RunL.slots (sl := [(4, .pointer (some ⟨_, _, none⟩)), (5, .pointer (some ⟨_, _, none⟩)), (18, .agg #[.int .i64 _, .int .i64 _])]) ⟨h4_, (hs3 5 rfl).trans rfl, h18_, trivial⟩ ?_
 clear hs3 hd4 hr6 tab1
 refine CN (SO (v := .agg #[.int .i64 _, .int .i64 _]) hst ty27 rfl rfl (.there (.there (.there (.here)))) fun w hst => ?_)
 refine NL <| run_ret2 Tryd.func14 rfl (TP (v := .pointer (some ⟨_, _, none⟩)) rfl) (RV.cellA (vs := [.int .i64 _, .int .i64 _]) rfl ty27 rfl rfl (cells_of_obj (n := 2) (hst.objL (.tail _ (.tail _ (.tail _ (.head _))))) _ rfl)) ?_
 replace hst := hst.pick (.cons (.here) (.cons (.there (.here)) .nil))
 exact ⟨_, _, _, rfl, hst.noD⟩
theorem R6as_Head (s : Tx) (w : World) (hG : LxG.holds w) (hl : s.length ≤ 1099511627776) : Ret Tryd.prog 6 #[str s] w (fun v w' => v = .tuple #[.agg #[.int .u32 (headF s).1.1, .int .u32 (headF s).1.2], .agg #[.int .i64 (headF s).2.1, .int .i64 (headF s).2.2]] ∧ St w NoM [] [] w') := by
 refine Ret.enter (args := [str s]) Tryd.func6 rfl rfl rfl ?_
 have hst : St w NoM [] [LxG] w := St.init_Ds (by simp only [List.forall_mem_cons]; exact ⟨hG, fun _ h => absurd h List.not_mem_nil⟩)
 refine SR <| CN <| Op1.alloc hst ty24 fun w b2 hst => CN <| Op1.alloc hst ty27 fun w b3 hst => NSR <| MS rfl <| CN (Op1.call2 (v1 := str _) (v2 := .int .u32 _) ent14 rfl rfl rfl ((R6as_read s 0 _ (hst.hD _ (.head _)) hl).mono fun v w hp => ?_))
 obtain ⟨bq, ao, cp, rfl, hp⟩ := hp
 replace hst := hst.call0 hp
 clear hp
 refine CN <| Op1.move (v := .tuple #[.pointer (some ⟨_, _, none⟩), .agg #[.int .i64 _, .int .i64 _]]) rfl <| CN <| Op1.extract (v := .pointer (some ⟨_, _, none⟩)) rfl rfl <| CN <| Op1.extract (v := .agg #[.int .i64 _, .int .i64 _]) rfl rfl <| CN <| Op1.alloc hst ty27 fun w b5 hst => AP rfl <| CN (SO (v := .agg #[.int .i64 _, .int .i64 _]) hst ty27 rfl rfl (.here) fun w hst => ?_)
 refine NL <| SQ <| SR <| CN <| Op1.fieldAddr fld27_0 rfl <| CN <| Op1.load1 (v := .int .i64 _) ty25 rfl rfl (hst.cellL (.head _) rfl) <| CN <| Op1.neq rfl rfl <| NL <| run_cond_dec rfl (fun g1 => ?_) (fun g1 => ?_)
 · skip
   refine SQ ?_
   replace hst := hst.pick (.cons (.there (.there (.there (.there (.here))))) (.cons (.here) (.cons (.here) (.cons (.here) (.cons (.here) .nil)))))
   apply RunD.start [(2, Res.row b2 24 _, Res.row b2 24 _)] hst (bs := [0, 0, 1, 7]) (ds := [some 16, some 17, none, none]) (htab := ⟨by kernel_rfl, by kernel_rfl, by kernel_rfl⟩)
   intro tab2
   refine RunD.op (det _) tab2 1 (fun f' L' w' hc => Op1.buildStruct ty24 stf24 .nil ⟨[], ⟨rfl, rfl⟩, hc.st⟩) ?_
   refine RunD.op (det _) tab2 2 (fun f' L' w' hc => Op1.loadA (vs := [.int .i64 _, .int .i64 _]) ty27 rfl (hc.old (v := .pointer (some ⟨_, _, none⟩)) rfl rfl rfl) rfl (cells_of_obj (n := 2) (hc.st.objL (List.mem_append_right _ (.head _))) _ rfl) ⟨[], ⟨rfl, rfl⟩, hc.st⟩) <| RunD.own tab2 3 (.head _) (fun f' L' L2 w' hc hsel => Op1.store (v := .agg #[.int .u32 _, .int .u32 _]) hc.st ty24 (hc.old (v := .pointer (some ⟨_, _, none⟩)) rfl rfl rfl) (hc.det (j := 0) rfl rfl rfl rfl) rfl rfl rfl hsel (by repeat (first | exact Put.nil | apply Put.put | apply Put.skip)) fun w hst => ⟨rfl, hst⟩) ?_
   refine RunD.fin followsMixed tab2 hst rfl (fun f3 w R6 hs4 hd5 hr7 hst => ?_)
   obtain ⟨h16_, r0⟩ := hd5 0 16 rfl rfl
   obtain ⟨h17_, r1⟩ := hd5 1 17 rfl rfl
   obtain ⟨_, _, r2⟩ := hr7 2 rfl
   simp only [show List.range 3 = [0, 1, 2] from rfl, List.flatMap_cons, List.flatMap_nil, List.map_cons, List.map_nil, r0, r1, r2, List.nil_append, List.append_nil, List.cons_append] at hst
   refine RunL.slots (sl := [(2, .pointer (some ⟨_, _, none⟩)), (3, .pointer (some ⟨_, _, none⟩)), (17, .agg #[.int .i64 _, .int .i64 _])]) ⟨(hs4 2 rfl).trans rfl, (hs4 3 rfl).trans rfl, h17_, trivial⟩ ?_
   clear hs4 hd5 hr7 tab2
   refine CN (SO (v := .agg #[.int .i64 _, .int .i64 _]) hst ty27 rfl rfl (.there (.there (.there (.there (.here))))) fun w hst => ?_)
   refine NL <| run_ret2 Tryd.func6 rfl (RV.cellA (vs := [.int .u32 _, .int .u32 _]) rfl ty24 rfl rfl (cells_of_obj (n := 2) (hst.objL (.head _)) _ rfl)) (RV.cellA (vs := [.int .i64 _, .int .i64 _]) rfl ty27 rfl rfl (cells_of_obj (n := 2) (hst.objL (.tail _ (.tail _ (.tail _ (.tail _ (.head _)))))) _ rfl)) ?_
   have he : headF s = ((0, 0), (toksF s).2) := if_pos g1
   rw [he]
   exact ⟨rfl, hst.pure⟩
 refine run_skip <| SQ ?_
 replace hst := hst.pick (.cons (.here) (.cons (.here) (.cons (.there (.here)) (.cons (.there (.here)) (.cons (.here) .nil)))))
 replace hst := hst.toD (L1 := [_, _, _, _]) (L2 := [_])
 refine RG <| MP rfl ?_
 replace hst := hst.pick (.cons (.there (.here)) (.cons (.here) (.cons (.here) (.cons (.here) .nil))))
 refine CN (Op1.call1 (v1 := .pointer (some ⟨_, _, none⟩)) ent15 rfl rfl ((R6as_head _ s _ _ (toksF s).1 _ _ _ _ (hst.hL _ (.head _)) (hst.hD _ (.head _)) (hst.sepD _ (.head _) _ (.head _)) hl (toksF_len s) (toksF_wsz s) (hst.hD _ (.tail _ (.head _))) (hst.sepD _ (.head _) _ (.tail _ (.head _)))).mono fun v w hp => ?_))
 rcases hp with ⟨q, hq, hq0, rfl, a2, hp⟩ | ⟨gn, bd, hq, rfl, a2, hp⟩
 · skip
   replace hst := hst.call1 hp
   clear hp
   refine CN <| Op1.move (v := .tuple #[.agg #[.int .u32 _, .int .u32 _], .bool _]) rfl <| CN <| Op1.extract (v := .agg #[.int .u32 _, .int .u32 _]) rfl rfl <| CN <| Op1.extract (v := .bool _) rfl rfl <| CN <| Op1.alloc hst ty24 fun w b6 hst => CN (SO (v := .agg #[.int .u32 _, .int .u32 _]) hst ty24 rfl rfl (.here) fun w hst => ?_)
   refine AB rfl <| NL <| Run.forget [(2, .pointer (some ⟨_, _, none⟩)), (3, .pointer (some ⟨_, _, none⟩)), (4, .pointer (some ⟨_, _, none⟩)), (6, .pointer (some ⟨_, _, none⟩)), (7, .bool _)] ⟨rfl, rfl, rfl, rfl, rfl, trivial⟩ fun f => SQ <| SR <| MB rfl <| CN <| Op1.not rfl <| NL <| run_cond_true (congrArg Value.bool (congrArg not (rfl : false = _))) <| SQ ?_
   replace hst := hst.pick (.cons (.there (.there (.there (.there (.here))))) (.cons (.here) (.cons (.here) (.cons (.here) (.cons (.here) .nil)))))
   apply RunD.start [(5, Res.row b2 24 _, Res.row b2 24 _)] hst (bs := [0, 0, 2, 6, 14, 1, 63]) (ds := [some 25, some 26, some 27, some 28, some 29, none, none]) (htab := ⟨by kernel_rfl, by kernel_rfl, by kernel_rfl⟩)
   intro tab8
   refine RunD.op (det _) tab8 1 (fun f' L' w' hc => Op1.buildStruct ty24 stf24 .nil ⟨[], ⟨rfl, rfl⟩, hc.st⟩) ?_
   refine RunD.op (det _) tab8 2 (fun f' L' w' hc => Op1.move (v := .pointer (some ⟨_, _, none⟩)) (hc.old (v := .pointer (some ⟨_, _, none⟩)) rfl rfl rfl) ⟨[], ⟨rfl, rfl⟩, hc.st⟩) <| RunD.op (det _) tab8 3 (fun f' L' w' hc => Op1.nilCheckP (hc.det (j := 1) rfl rfl rfl rfl) ⟨[], ⟨rfl, rfl⟩, hc.st⟩) <| RunD.op (det _) tab8 4 (fun f' L' w' hc => Op1.fieldAddr fld53_4 (hc.det (j := 2) rfl rfl rfl rfl) ⟨[], ⟨rfl, rfl⟩, hc.st⟩) <| RunD.op (det _) tab8 5 (fun f' L' w' hc => Op1.loadA (vs := [.int .i64 _, .int .i64 _]) ty27 rfl (hc.det (j := 3) rfl rfl rfl rfl) rfl (cells_of_obj (n := 2) (hc.st.objL (List.mem_append_right _ (.tail _ (.head _)))) _ rfl) ⟨[], ⟨rfl, rfl⟩, hc.st⟩) <| RunD.own tab8 6 (.head _) (fun f' L' L2 w' hc hsel => Op1.store (v := .agg #[.int .u32 _, .int .u32 _]) hc.st ty24 (hc.old (v := .pointer (some ⟨_, _, none⟩)) rfl rfl rfl) (hc.det (j := 0) rfl rfl rfl rfl) rfl rfl rfl hsel (by repeat (first | exact Put.nil | apply Put.put | apply Put.skip)) fun w hst => ⟨rfl, hst⟩) ?_
   refine RunD.fin followsMixed tab8 hst rfl (fun f9 w R12 hs10 hd11 hr13 hst => ?_)
   obtain ⟨h25_, r0⟩ := hd11 0 25 rfl rfl
   obtain ⟨h26_, r1⟩ := hd11 1 26 rfl rfl
   obtain ⟨h27_, r2⟩ := hd11 2 27 rfl rfl
   obtain ⟨h28_, r3⟩ := hd11 3 28 rfl rfl
   obtain ⟨h29_, r4⟩ := hd11 4 29 rfl rfl
   obtain ⟨_, _, r5⟩ := hr13 5 rfl
   simp only [show List.range 6 = [0, 1, 2, 3, 4, 5] from rfl, List.flatMap_cons, List.flatMap_nil, List.map_cons, List.map_nil, r0, r1, r2, r3, r4, r5, List.nil_append, List.append_nil, List.cons_append] at hst
   refine RunL.slots (sl := [(2, .pointer (some ⟨_, _, none⟩)), (3, .pointer (some ⟨_, _, none⟩)), (29, .agg #[.int .i64 _, .int .i64 _])]) ⟨(hs10 2 rfl).trans rfl, (hs10 3 rfl).trans rfl, h29_, trivial⟩ ?_
   clear hs10 hd11 hr13 tab8
   refine CN (SO (v := .agg #[.int .i64 _, .int .i64 _]) hst ty27 rfl rfl (.there (.there (.there (.there (.here))))) fun w hst => ?_)
   refine NL <| run_ret2 Tryd.func6 rfl (RV.cellA (vs := [.int .u32 _, .int .u32 _]) rfl ty24 rfl rfl (cells_of_obj (n := 2) (hst.objL (.head _)) _ rfl)) (RV.cellA (vs := [.int .i64 _, .int .i64 _]) rfl ty27 rfl rfl (cells_of_obj (n := 2) (hst.objL (.tail _ (.tail _ (.tail _ (.tail _ (.head _)))))) _ rfl)) ?_
   have he : headF s = headL s.length (toksF s).1 := if_neg g1
   rw [he, hq]
   exact ⟨rfl, hst.pure⟩
 · skip
   replace hst := hst.call1 hp
   clear hp
   refine CN <| Op1.move (v := .tuple #[.agg #[.int .u32 _, .int .u32 _], .bool _]) rfl <| CN <| Op1.extract (v := .agg #[.int .u32 _, .int .u32 _]) rfl rfl <| CN <| Op1.extract (v := .bool _) rfl rfl <| CN <| Op1.alloc hst ty24 fun w b6 hst => CN (SO (v := .agg #[.int .u32 _, .int .u32 _]) hst ty24 rfl rfl (.here) fun w hst => ?_)
   refine AB rfl <| NL <| Run.forget [(2, .pointer (some ⟨_, _, none⟩)), (3, .pointer (some ⟨_, _, none⟩)), (4, .pointer (some ⟨_, _, none⟩)), (6, .pointer (some ⟨_, _, none⟩)), (7, .bool _)] ⟨rfl, rfl, rfl, rfl, rfl, trivial⟩ fun f => SQ <| SR <| MB rfl <| CN <| Op1.not rfl <| NL <| run_cond_false (congrArg Value.bool (congrArg not (rfl : true = _))) <| run_skip <| SR <| CN <| Op1.loadA (vs := [.int .u32 _, .int .u32 _]) ty24 rfl rfl rfl (cells_of_obj (n := 2) (hst.objL (.head _)) _ rfl) <| CN (Op1.buildStruct ty27 stf27 .nil ?_)
   refine CN (SO (v := .agg #[.int .u32 _, .int .u32 _]) hst ty24 rfl rfl (.there (.there (.there (.there (.here))))) fun w hst => ?_)
   refine CN (SO (v := .agg #[.int .i64 _, .int .i64 _]) hst ty27 rfl rfl (.there (.there (.there (.here)))) fun w hst => ?_)
   refine NL <| run_ret2 Tryd.func6 rfl (RV.cellA (vs := [.int .u32 _, .int .u32 _]) rfl ty24 rfl rfl (cells_of_obj (n := 2) (hst.objL (.tail _ (.tail _ (.tail _ (.tail _ (.head _)))))) _ rfl)) (RV.cellA (vs := [.int .i64 _, .int .i64 _]) rfl ty27 rfl rfl (cells_of_obj (n := 2) (hst.objL (.tail _ (.tail _ (.tail _ (.head _))))) _ rfl)) ?_
   have he : headF s = headL s.length (toksF s).1 := if_neg g1
   rw [he, hq]
   exact ⟨rfl, hst.pure⟩
end Go.SK
namespace Go.SK
open Go Go.Proofs
theorem ent11 : Enters Tryd.prog 11 := ⟨Tryd.f11, _, Tryd.func11, by kernel_rfl, rfl⟩
theorem ent12 : Enters Tryd.prog 12 := ⟨Tryd.f12, _, Tryd.func12, by kernel_rfl, rfl⟩
theorem fld24_0 : FldF Tryd.prog 24 0 0 := FldF.of (n := 0) (by kernel_rfl)
theorem fld24_1 : FldF Tryd.prog 24 1 1 := FldF.of (n := 0) (by kernel_rfl)
theorem ent5 : Enters Tryd.prog 5 := ⟨Tryd.f5, _, Tryd.func5, by kernel_rfl, rfl⟩
theorem ent6 : Enters Tryd.prog 6 := ⟨Tryd.f6, _, Tryd.func6, by kernel_rfl, rfl⟩
end Go.SK
namespace Go.SK
open Go Go.Proofs
open Go.RowKit
theorem R6as_spot (x y : Int) (w : World) : Ret Tryd.prog 12 #[.int .i64 x, .int .i64 y] w (fun v w' => v = .agg #[.int .i64 x, .int .i64 y] ∧ St w NoM [] [] w') := by
 refine Ret.enter (args := [.int .i64 x, .int .i64 y]) Tryd.func12 rfl rfl rfl ?_
 have hst := St.init w
 refine SR <| CN <| Op1.alloc hst ty27 fun w b4 hst => NSR <| MI rfl <| MI rfl <| CN (Op1.buildStruct ty27 stf27 (.c (v := .int .i64 _) rfl (h := (.c (v := .int .i64 _) rfl (h := .nil)))) ?_)
 refine CN (SO (v := .agg #[.int .i64 _, .int .i64 _]) hst ty27 rfl rfl (.here) fun w hst => ?_)
 refine NL <| run_ret1 Tryd.func12 rfl (RV.cellA (vs := [.int .i64 _, .int .i64 _]) rfl ty27 rfl rfl (cells_of_obj (n := 2) (hst.objL (.head _)) _ rfl)) ?_
 exact ⟨rfl, hst.pure⟩
theorem R6ref7_Head (s : Tx) (w : World) (hG : LxG.holds w) (hl : s.length ≤ 1099511627776) : Ret Tryd.prog 5 #[str s] w (fun v w' => v = .tuple #[.agg #[.int .u32 (headF s).1.1, .int .u32 (headF s).1.2], .agg #[.int .i64 (headF s).2.1, .int .i64 (headF s).2.2]] ∧ St w NoM [] [] w') := by
 refine Ret.enter (args := [str s]) Tryd.func5 rfl rfl rfl ?_
 have hst : St w NoM [] [LxG] w := St.init_Ds (by simp only [List.forall_mem_cons]; exact ⟨hG, fun _ h => absurd h List.not_mem_nil⟩)
 have htl := toksF_len s
 have hts := toksF_wsz s
 refine SR <| CN <| Op1.alloc hst ty24 fun w b2 hst => CN <| Op1.alloc hst ty27 fun w b3 hst => NSR <| MS rfl <| CN (Op1.call1 (v1 := str _) ent11 rfl rfl ((R6lx_rTokens s _ hl).mono fun v w hp => ?_))
 obtain ⟨ao_x1, cp_x1, rfl, hp⟩ := hp
 replace hst := hst.call0 hp
 clear hp
 refine CN <| Op1.move (v := .tuple #[.slice _ _ _, .agg #[.int .i64 _, .int .i64 _]]) rfl <| CN <| Op1.extract (v := .slice _ _ _) rfl rfl <| CN <| Op1.extract (v := .agg #[.int .i64 _, .int .i64 _]) rfl rfl <| CN <| Op1.alloc hst ty27 fun w b5 hst => AL rfl <| CN (SO (v := .agg #[.int .i64 _, .int .i64 _]) hst ty27 rfl rfl (.here) fun w hst => ?_)
 refine NL <| SQ <| SR <| CN <| Op1.fieldAddr fld27_0 rfl <| CN <| Op1.load1 (v := .int .i64 _) ty25 rfl rfl (hst.cellL (.head _) rfl) <| CN <| Op1.neq rfl rfl <| NL <| run_cond_dec rfl (fun g1 => ?_) (fun g1 => ?_)
 · skip
   refine SQ ?_
   replace hst := hst.pick (.cons (.there (.there (.there (.here)))) (.cons (.here) (.cons (.here) (.cons (.here) .nil))))
   apply RunD.start [(2, Res.row b2 24 _, Res.row b2 24 _)] hst (bs := [0, 0, 1, 7]) (ds := [some 18, some 19, none, none]) (htab := ⟨by kernel_rfl, by kernel_rfl, by kernel_rfl⟩)
   intro tab2
   refine RunD.op (det _) tab2 1 (fun f' L' w' hc => Op1.buildStruct ty24 stf24 .nil ⟨[], ⟨rfl, rfl⟩, hc.st⟩) ?_
   refine RunD.op (det _) tab2 2 (fun f' L' w' hc => Op1.loadA (vs := [.int .i64 _, .int .i64 _]) ty27 rfl (hc.old (v := .pointer (some ⟨_, _, none⟩)) rfl rfl rfl) rfl (cells_of_obj (n := 2) (hc.st.objL (List.mem_append_right _ (.head _))) _ rfl) ⟨[], ⟨rfl, rfl⟩, hc.st⟩) <| RunD.own tab2 3 (.head _) (fun f' L' L2 w' hc hsel => Op1.store (v := .agg #[.int .u32 _, .int .u32 _]) hc.st ty24 (hc.old (v := .pointer (some ⟨_, _, none⟩)) rfl rfl rfl) (hc.det (j := 0) rfl rfl rfl rfl) rfl rfl rfl hsel (by repeat (first | exact Put.nil | apply Put.put | apply Put.skip)) fun w hst => ⟨rfl, hst⟩) ?_
   refine RunD.fin followsMixed tab2 hst rfl (fun f3 w R6 hs4 hd5 hr7 hst => ?_)
   obtain ⟨h18_, r0⟩ := hd5 0 18 rfl rfl
   obtain ⟨h19_, r1⟩ := hd5 1 19 rfl rfl
   obtain ⟨_, _, r2⟩ := hr7 2 rfl
   simp only [show List.range 3 = [0, 1, 2] from rfl, List.flatMap_cons, List.flatMap_nil, List.map_cons, List.map_nil, r0, r1, r2, List.nil_append, List.append_nil, List.cons_append] at hst
   refine RunL.slots (sl := [(2, .pointer (some ⟨_, _, none⟩)), (3, .pointer (some ⟨_, _, none⟩)), (19, .agg #[.int .i64 _, .int .i64 _])]) ⟨(hs4 2 rfl).trans rfl, (hs4 3 rfl).trans rfl, h19_, trivial⟩ ?_
   clear hs4 hd5 hr7 tab2
   refine CN (SO (v := .agg #[.int .i64 _, .int .i64 _]) hst ty27 rfl rfl (.there (.there (.there (.here)))) fun w hst => ?_)
   refine NL <| run_ret2 Tryd.func5 rfl (RV.cellA (vs := [.int .u32 _, .int .u32 _]) rfl ty24 rfl rfl (cells_of_obj (n := 2) (hst.objL (.head _)) _ rfl)) (RV.cellA (vs := [.int .i64 _, .int .i64 _]) rfl ty27 rfl rfl (cells_of_obj (n := 2) (hst.objL (.tail _ (.tail _ (.tail _ (.head _))))) _ rfl)) ?_
   have he : headF s = ((0, 0), (toksF s).2) := if_pos g1
   rw [he]
   exact ⟨rfl, hst.pure⟩
 refine run_skip <| SR <| CN <| Op1.alloc hst ty24 fun w b6 hst => NL <| SQ <| SR <| AI rfl <| NL <| run_block <| run_loop <| Run.indW [(0, str _), (2, .pointer (some ⟨_, _, none⟩)), (3, .pointer (some ⟨_, _, none⟩)), (4, .slice _ _ _), (6, .pointer (some ⟨_, _, none⟩))] ⟨rfl, rfl, rfl, rfl, rfl, trivial⟩ (fun (qq : Nat × Int × Int) => [(7, .int .i64 (qq.1 : Int))]) (fun (qq : Nat × Int × Int) => [Res.row b6 24 [.int .u32 qq.2.1, .int .u32 qq.2.2]]) (fun (qq : Nat × Int × Int) => HdI (toksF s).1 qq.1 qq.2.1 qq.2.2) (fun (qq : Nat × Int × Int) => (toksF s).1.length - qq.1) ((0, 0, 0)) hst (HdI.start _) ⟨rfl, trivial⟩ ?_
 intro ⟨k, gn, bd⟩ f w hst hJ ih8
 replace hst : St _ _ ([Res.row b6 24 [.int .u32 gn, .int .u32 bd]] ++ [_, _, _, _]) _ _ := hst
 replace hJ : HdI (toksF s).1 k gn bd := hJ
 refine Run.slots (sl := [(7, .int .i64 (k : Int))]) ⟨rfl, trivial⟩ ?_
 have hj1 := hJ.le
 have hnu := numLx_u32 ((toksF s).1.getD k tok0).text
 refine SQ <| SR <| MI rfl <| ML rfl <| CN <| Op1.lenSl (rest := []) ty39 rfl <| CN <| Op1.lss rfl rfl <| NL <| run_cond_dec rfl (fun g9 => ?_) (fun g9 => ?_)
 · skip
   refine run_skip <| SQ <| run_block <| SQ <| SR <| MI rfl <| CN <| Op1.eql rfl rfl <| MB rfl <| RunL.splitD (d := 28) rfl (fun g10 => ?_) (fun g10 => ?_)
   · skip
     refine OM (t := 28) rfl (congrArg Value.bool (decide_eq_true g10)) rfl <| OM (t := 28) rfl (congrArg Value.bool (decide_eq_true g10)) rfl <| OM (t := 28) rfl (congrArg Value.bool (decide_eq_true g10)) rfl <| RunL.omitU (t := 31) rfl rfl <| RunL.omitU (t := 31) rfl rfl <| RunL.omitU (t := 31) rfl rfl <| RunL.omitU (t := 31) rfl rfl <| RunL.omitU (t := 31) rfl rfl <| RunL.omitU (t := 31) rfl rfl <| RunL.omitU (t := 31) rfl rfl <| RunL.omitU (t := 38) rfl rfl <| RunL.omitU (t := 38) rfl rfl <| RunL.omitU (t := 38) rfl rfl <| RunL.omitU (t := 38) rfl rfl <| RunL.omitU (t := 38) rfl rfl ?_
     refine RunL.omitU (t := 38) rfl rfl <| RunL.omitU (t := 31) rfl rfl <| OM (t := 28) rfl (congrArg Value.bool (decide_eq_true g10)) rfl <| CN <| Op1.pickT (u := .bool _) (congrArg Value.bool (decide_eq_true g10)) rfl <| MB rfl <| OM (t := 48) rfl (congrArg Value.bool (rfl : true = _)) rfl <| OM (t := 48) rfl (congrArg Value.bool (rfl : true = _)) rfl <| OM (t := 48) rfl (congrArg Value.bool (rfl : true = _)) rfl <| RunL.omitU (t := 51) rfl rfl <| RunL.omitU (t := 51) rfl rfl <| RunL.omitU (t := 51) rfl rfl <| RunL.omitU (t := 51) rfl rfl <| RunL.omitU (t := 51) rfl rfl <| RunL.omitU (t := 51) rfl rfl <| OM (t := 48) rfl (congrArg Value.bool (rfl : true = _)) rfl ?_
     refine CN <| Op1.pickT (u := .bool _) (congrArg Value.bool (rfl : true = _)) rfl <| NL <| run_cond_true (congrArg Value.bool (rfl : true = _)) <| SR <| CN (Op1.buildStruct ty24 stf24 .nil ?_)
     refine ML rfl <| MI rfl <| CN <| Op1.indexRs ty39 ty43 ((Res.rs_of_sl (hst.hL _ (.tail _ (.tail _ (.head _)))))) rfl rfl (by omega) (by omega) <| CN <| Op1.fieldAddr fld43_2 rfl <| CN <| Op1.load1 (v := .int .i64 _) ty3 rfl rfl (Res.rs2_cellF ((Res.rs_of_sl (hst.hL _ (.tail _ (.tail _ (.head _)))))) (flat_cell (g := tokC) (d := tok0) tokC_len rfl (by omega))) <| CN <| Op1.call2 (v1 := .int .i64 _) (v2 := .int .i64 _) ent12 rfl rfl rfl <| Ret.det (R6as_spot _ _ _) hst fun w hst => CN (SO (v := .agg #[.int .u32 _, .int .u32 _]) hst ty24 rfl rfl (.there (.there (.there (.there (.here))))) fun w hst => ?_)
     refine CN (SO (v := .agg #[.int .i64 _, .int .i64 _]) hst ty27 rfl rfl (.there (.there (.there (.here)))) fun w hst => ?_)
     refine NL <| run_ret2 Tryd.func5 rfl (RV.cellA (vs := [.int .u32 _, .int .u32 _]) rfl ty24 rfl rfl (cells_of_obj (n := 2) (hst.objL (.tail _ (.tail _ (.tail _ (.tail _ (.head _)))))) _ rfl)) (RV.cellA (vs := [.int .i64 _, .int .i64 _]) rfl ty27 rfl rfl (cells_of_obj (n := 2) (hst.objL (.tail _ (.tail _ (.tail _ (.head _))))) _ rfl)) ?_
     have he : headF s = headL s.length (toksF s).1 := if_neg g1
     rw [he, hJ.at3 (by omega) (by omega)]
     exact ⟨rfl, hst.pure⟩
   refine TK (t := 28) rfl (congrArg Value.bool (decide_eq_false g10)) <| Op1.move (v := .int .i64 _) rfl <| TK (t := 28) rfl (congrArg Value.bool (decide_eq_false g10)) <| Op1.eql rfl rfl <| TK (t := 28) rfl (congrArg Value.bool (decide_eq_false g10)) <| Op1.move (v := .bool _) rfl <| RunL.splitD (d := 31) rfl (fun g11 => ?_) (fun g11 => ?_)
   · skip
     refine TK (t := 31) rfl (congrArg Value.bool (decide_eq_true g11)) <| Op1.move (v := .slice _ _ _) rfl <| TK (t := 31) rfl (congrArg Value.bool (decide_eq_true g11)) <| Op1.move (v := .int .i64 _) rfl <| TK (t := 31) rfl (congrArg Value.bool (decide_eq_true g11)) <| Op1.indexRs ty39 ty43 ((Res.rs_of_sl (hst.hL _ (.tail _ (.tail _ (.head _)))))) rfl rfl (by omega) (by omega) <| TK (t := 31) rfl (congrArg Value.bool (decide_eq_true g11)) <| Op1.fieldAddr fld43_0 rfl <| TK (t := 31) rfl (congrArg Value.bool (decide_eq_true g11)) <| Op1.load1 (v := .int .u8 _) ty5 rfl rfl (Res.rs2_cellF ((Res.rs_of_sl (hst.hL _ (.tail _ (.tail _ (.head _)))))) (flat_cell (g := tokC) (d := tok0) tokC_len rfl (by omega))) <| TK (t := 31) rfl (congrArg Value.bool (decide_eq_true g11)) <| Op1.neq rfl rfl <| TK (t := 31) rfl (congrArg Value.bool (decide_eq_true g11)) <| Op1.move (v := .bool _) rfl <| RunL.splitD (d := 38) rfl (fun g12 => ?_) (fun g12 => ?_)
     · skip
       refine OM (t := 38) rfl (congrArg Value.bool (decide_eq_true g12)) rfl <| OM (t := 38) rfl (congrArg Value.bool (decide_eq_true g12)) rfl <| OM (t := 38) rfl (congrArg Value.bool (decide_eq_true g12)) rfl <| OM (t := 38) rfl (congrArg Value.bool (decide_eq_true g12)) rfl <| OM (t := 38) rfl (congrArg Value.bool (decide_eq_true g12)) rfl <| OM (t := 38) rfl (congrArg Value.bool (decide_eq_true g12)) rfl <| TK (t := 31) rfl (congrArg Value.bool (decide_eq_true g11)) <| Op1.pickT (u := .bool _) (congrArg Value.bool (decide_eq_true g12)) rfl <| TK (t := 28) rfl (congrArg Value.bool (decide_eq_false g10)) <| Op1.pickT (u := .bool _) (congrArg Value.bool (decide_eq_true g11)) rfl <| CN <| Op1.pickF (u := .bool _) (congrArg Value.bool (decide_eq_false g10)) rfl <| MB rfl <| OM (t := 48) rfl (congrArg Value.bool (rfl : true = _)) rfl <| OM (t := 48) rfl (congrArg Value.bool (rfl : true = _)) rfl <| OM (t := 48) rfl (congrArg Value.bool (rfl : true = _)) rfl <| RunL.omitU (t := 51) rfl rfl <| RunL.omitU (t := 51) rfl rfl ?_
       refine RunL.omitU (t := 51) rfl rfl <| RunL.omitU (t := 51) rfl rfl <| RunL.omitU (t := 51) rfl rfl <| RunL.omitU (t := 51) rfl rfl <| OM (t := 48) rfl (congrArg Value.bool (rfl : true = _)) rfl <| CN <| Op1.pickT (u := .bool _) (congrArg Value.bool (rfl : true = _)) rfl <| NL <| Run.forget [(0, str _), (2, .pointer (some ⟨_, _, none⟩)), (3, .pointer (some ⟨_, _, none⟩)), (4, .slice _ _ _), (6, .pointer (some ⟨_, _, none⟩)), (7, .int .i64 _), (59, .bool _)] ⟨rfl, rfl, rfl, rfl, rfl, rfl, rfl, trivial⟩ fun f => run_cond_true (congrArg Value.bool (rfl : true = _)) <| SR <| CN (Op1.buildStruct ty24 stf24 .nil ?_)
       refine ML rfl <| MI rfl <| CN <| Op1.indexRs ty39 ty43 ((Res.rs_of_sl (hst.hL _ (.tail _ (.tail _ (.head _)))))) rfl rfl (by omega) (by omega) <| CN <| Op1.fieldAddr fld43_2 rfl <| CN <| Op1.load1 (v := .int .i64 _) ty3 rfl rfl (Res.rs2_cellF ((Res.rs_of_sl (hst.hL _ (.tail _ (.tail _ (.head _)))))) (flat_cell (g := tokC) (d := tok0) tokC_len rfl (by omega))) <| CN <| Op1.call2 (v1 := .int .i64 _) (v2 := .int .i64 _) ent12 rfl rfl rfl <| Ret.det (R6as_spot _ _ _) hst fun w hst => CN (SO (v := .agg #[.int .u32 _, .int .u32 _]) hst ty24 rfl rfl (.there (.there (.there (.there (.here))))) fun w hst => ?_)
       refine CN (SO (v := .agg #[.int .i64 _, .int .i64 _]) hst ty27 rfl rfl (.there (.there (.there (.here)))) fun w hst => ?_)
       refine NL <| run_ret2 Tryd.func5 rfl (RV.cellA (vs := [.int .u32 _, .int .u32 _]) rfl ty24 rfl rfl (cells_of_obj (n := 2) (hst.objL (.tail _ (.tail _ (.tail _ (.tail _ (.head _)))))) _ rfl)) (RV.cellA (vs := [.int .i64 _, .int .i64 _]) rfl ty27 rfl rfl (cells_of_obj (n := 2) (hst.objL (.tail _ (.tail _ (.tail _ (.head _))))) _ rfl)) ?_
       have he : headF s = headL s.length (toksF s).1 := if_neg g1
       rw [he, hJ.bad0 (by omega) (by omega) (.inl g12)]
       exact ⟨rfl, hst.pure⟩
     refine TK (t := 38) rfl (congrArg Value.bool (decide_eq_false g12)) <| Op1.move (v := .slice _ _ _) rfl <| TK (t := 38) rfl (congrArg Value.bool (decide_eq_false g12)) <| Op1.move (v := .int .i64 _) rfl <| TK (t := 38) rfl (congrArg Value.bool (decide_eq_false g12)) <| Op1.indexRs ty39 ty43 ((Res.rs_of_sl (hst.hL _ (.tail _ (.tail _ (.head _)))))) rfl rfl (by omega) (by omega) <| TK (t := 38) rfl (congrArg Value.bool (decide_eq_false g12)) <| Op1.fieldAddr fld43_1 rfl <| TK (t := 38) rfl (congrArg Value.bool (decide_eq_false g12)) <| Op1.load1 (v := str _) ty9 rfl rfl (Res.rs2_cellF ((Res.rs_of_sl (hst.hL _ (.tail _ (.tail _ (.head _)))))) (flat_cell (g := tokC) (d := tok0) tokC_len rfl (by omega))) <| TK (t := 38) rfl (congrArg Value.bool (decide_eq_false g12)) <| Op1.neqS rfl rfl <| TK (t := 31) rfl (congrArg Value.bool (decide_eq_true g11)) <| Op1.pickF (u := .bool _) (congrArg Value.bool (decide_eq_false g12)) rfl <| TK (t := 28) rfl (congrArg Value.bool (decide_eq_false g10)) <| Op1.pickT (u := .bool _) (congrArg Value.bool (decide_eq_true g11)) rfl <| CN <| Op1.pickF (u := .bool _) (congrArg Value.bool (decide_eq_false g10)) rfl <| MB rfl <| RunL.splitD (d := 48) rfl (fun g13 => ?_) (fun g13 => ?_)
     · skip
       refine OM (t := 48) rfl (congrArg Value.bool (decide_eq_true g13)) rfl <| OM (t := 48) rfl (congrArg Value.bool (decide_eq_true g13)) rfl <| OM (t := 48) rfl (congrArg Value.bool (decide_eq_true g13)) rfl <| RunL.omitU (t := 51) rfl rfl <| RunL.omitU (t := 51) rfl rfl <| RunL.omitU (t := 51) rfl rfl <| RunL.omitU (t := 51) rfl rfl <| RunL.omitU (t := 51) rfl rfl <| RunL.omitU (t := 51) rfl rfl <| OM (t := 48) rfl (congrArg Value.bool (decide_eq_true g13)) rfl <| CN <| Op1.pickT (u := .bool _) (congrArg Value.bool (decide_eq_true g13)) rfl <| NL <| Run.forget [(0, str _), (2, .pointer (some ⟨_, _, none⟩)), (3, .pointer (some ⟨_, _, none⟩)), (4, .slice _ _ _), (6, .pointer (some ⟨_, _, none⟩)), (7, .int .i64 _), (59, .bool _)] ⟨rfl, rfl, rfl, rfl, rfl, rfl, rfl, trivial⟩ fun f => run_cond_true (congrArg Value.bool (rfl : true = _)) <| SQ ?_
       refine RG <| CN (Op1.buildStruct ty24 stf24 .nil ?_)
       refine ML rfl <| MI rfl <| CN <| Op1.indexRs ty39 ty43 ((Res.rs_of_sl (hst.hL _ (.tail _ (.tail _ (.head _)))))) rfl rfl (by omega) (by omega) <| CN <| Op1.fieldAddr fld43_2 rfl <| CN <| Op1.load1 (v := .int .i64 _) ty3 rfl rfl (Res.rs2_cellF ((Res.rs_of_sl (hst.hL _ (.tail _ (.tail _ (.head _)))))) (flat_cell (g := tokC) (d := tok0) tokC_len rfl (by omega))) <| CN <| Op1.call2 (v1 := .int .i64 _) (v2 := .int .i64 _) ent12 rfl rfl rfl <| Ret.det (R6as_spot _ _ _) hst fun w hst => CN (SO (v := .agg #[.int .u32 _, .int .u32 _]) hst ty24 rfl rfl (.there (.there (.there (.there (.here))))) fun w hst => ?_)
       refine CN (SO (v := .agg #[.int .i64 _, .int .i64 _]) hst ty27 rfl rfl (.there (.there (.there (.here)))) fun w hst => ?_)
       refine NL <| run_ret2 Tryd.func5 rfl (RV.cellA (vs := [.int .u32 _, .int .u32 _]) rfl ty24 rfl rfl (cells_of_obj (n := 2) (hst.objL (.tail _ (.tail _ (.tail _ (.tail _ (.head _)))))) _ rfl)) (RV.cellA (vs := [.int .i64 _, .int .i64 _]) rfl ty27 rfl rfl (cells_of_obj (n := 2) (hst.objL (.tail _ (.tail _ (.tail _ (.head _))))) _ rfl)) ?_
       have he : headF s = headL s.length (toksF s).1 := if_neg g1
       rw [he, hJ.bad0 (by omega) (by omega) (.inr g13)]
       exact ⟨rfl, hst.pure⟩
     refine TK (t := 48) rfl (congrArg Value.bool (decide_eq_false g13)) <| Op1.move (v := .int .i64 _) rfl <| TK (t := 48) rfl (congrArg Value.bool (decide_eq_false g13)) <| Op1.gtr rfl rfl <| TK (t := 48) rfl (congrArg Value.bool (decide_eq_false g13)) <| Op1.move (v := .bool _) rfl <| RunL.splitD (d := 51) rfl (fun g14 => ?_) (fun g14 => ?_)
     · skip
       exfalso
       omega
     refine OM (t := 51) rfl (congrArg Value.bool (decide_eq_false g14)) rfl <| OM (t := 51) rfl (congrArg Value.bool (decide_eq_false g14)) rfl <| OM (t := 51) rfl (congrArg Value.bool (decide_eq_false g14)) rfl <| OM (t := 51) rfl (congrArg Value.bool (decide_eq_false g14)) rfl <| OM (t := 51) rfl (congrArg Value.bool (decide_eq_false g14)) rfl <| OM (t := 51) rfl (congrArg Value.bool (decide_eq_false g14)) rfl <| TK (t := 48) rfl (congrArg Value.bool (decide_eq_false g13)) <| Op1.pickF (u := .bool _) (congrArg Value.bool (decide_eq_false g14)) rfl <| CN <| Op1.pickF (u := .bool _) (congrArg Value.bool (decide_eq_false g13)) rfl <| NL <| Run.forget [(0, str _), (2, .pointer (some ⟨_, _, none⟩)), (3, .pointer (some ⟨_, _, none⟩)), (4, .slice _ _ _), (6, .pointer (some ⟨_, _, none⟩)), (7, .int .i64 _), (59, .bool _)] ⟨rfl, rfl, rfl, rfl, rfl, rfl, rfl, trivial⟩ fun f => run_cond_false (congrArg Value.bool (rfl : false = _)) <| run_skip <| SR <| MI rfl ?_
     refine CN <| Op1.gtr rfl rfl <| NL <| run_cond_dec rfl (fun g15 => ?_) (fun g15 => ?_)
     · skip
       exfalso
       omega
     refine run_skip <| run_inBlock <| RG <| MI rfl <| CN <| Op1.addN rfl rfl rfl (wrap_i64 (by omega) (by omega)) <| AI rfl <| NL <| run_inLoop ?_
     exact ih8 ((k + 1, gn, bd)) _ w ((by (try dsimp only); omega)) hst ((hJ.step0 (by omega) (by omega) (Classical.not_not.1 g12) (Classical.not_not.1 g13))) ⟨rfl, rfl, rfl, rfl, rfl, trivial⟩ ⟨(congrArg (Value.int .i64) (by (try dsimp only); omega)), trivial⟩
   refine OM (t := 31) rfl (congrArg Value.bool (decide_eq_false g11)) rfl <| OM (t := 31) rfl (congrArg Value.bool (decide_eq_false g11)) rfl <| OM (t := 31) rfl (congrArg Value.bool (decide_eq_false g11)) rfl <| OM (t := 31) rfl (congrArg Value.bool (decide_eq_false g11)) rfl <| OM (t := 31) rfl (congrArg Value.bool (decide_eq_false g11)) rfl <| OM (t := 31) rfl (congrArg Value.bool (decide_eq_false g11)) rfl <| OM (t := 31) rfl (congrArg Value.bool (decide_eq_false g11)) rfl <| RunL.omitU (t := 38) rfl rfl <| RunL.omitU (t := 38) rfl rfl <| RunL.omitU (t := 38) rfl rfl <| RunL.omitU (t := 38) rfl rfl <| RunL.omitU (t := 38) rfl rfl <| RunL.omitU (t := 38) rfl rfl <| OM (t := 31) rfl (congrArg Value.bool (decide_eq_false g11)) rfl <| TK (t := 28) rfl (congrArg Value.bool (decide_eq_false g10)) (Op1.pickF (u := .bool _) (congrArg Value.bool (decide_eq_false g11)) rfl ?_)
   refine CN <| Op1.pickF (u := .bool _) (congrArg Value.bool (decide_eq_false g10)) rfl <| MB rfl <| TK (t := 48) rfl (congrArg Value.bool (rfl : false = _)) <| Op1.move (v := .int .i64 _) rfl <| TK (t := 48) rfl (congrArg Value.bool (rfl : false = _)) <| Op1.gtr rfl rfl <| TK (t := 48) rfl (congrArg Value.bool (rfl : false = _)) <| Op1.move (v := .bool _) rfl <| RunL.splitD (d := 51) rfl (fun g16 => ?_) (fun g16 => ?_)
   · skip
     refine TK (t := 51) rfl (congrArg Value.bool (decide_eq_true g16)) <| Op1.move (v := .slice _ _ _) rfl <| TK (t := 51) rfl (congrArg Value.bool (decide_eq_true g16)) <| Op1.move (v := .int .i64 _) rfl <| TK (t := 51) rfl (congrArg Value.bool (decide_eq_true g16)) <| Op1.indexRs ty39 ty43 ((Res.rs_of_sl (hst.hL _ (.tail _ (.tail _ (.head _)))))) rfl rfl (by omega) (by omega) <| TK (t := 51) rfl (congrArg Value.bool (decide_eq_true g16)) <| Op1.fieldAddr fld43_0 rfl <| TK (t := 51) rfl (congrArg Value.bool (decide_eq_true g16)) <| Op1.load1 (v := .int .u8 _) ty5 rfl rfl (Res.rs2_cellF ((Res.rs_of_sl (hst.hL _ (.tail _ (.tail _ (.head _)))))) (flat_cell (g := tokC) (d := tok0) tokC_len rfl (by omega))) <| TK (t := 51) rfl (congrArg Value.bool (decide_eq_true g16)) <| Op1.neq rfl rfl <| TK (t := 48) rfl (congrArg Value.bool (rfl : false = _)) <| Op1.pickT (u := .bool _) (congrArg Value.bool (decide_eq_true g16)) rfl <| CN <| Op1.pickF (u := .bool _) (congrArg Value.bool (rfl : false = _)) rfl <| NL <| Run.forget [(0, str _), (2, .pointer (some ⟨_, _, none⟩)), (3, .pointer (some ⟨_, _, none⟩)), (4, .slice _ _ _), (6, .pointer (some ⟨_, _, none⟩)), (7, .int .i64 _), (59, .bool _)] ⟨rfl, rfl, rfl, rfl, rfl, rfl, rfl, trivial⟩ fun f => run_cond_dec rfl (fun g17 => ?_) (fun g17 => ?_)
     · skip
       refine SR <| CN (Op1.buildStruct ty24 stf24 .nil ?_)
       refine ML rfl <| MI rfl <| CN <| Op1.indexRs ty39 ty43 ((Res.rs_of_sl (hst.hL _ (.tail _ (.tail _ (.head _)))))) rfl rfl (by omega) (by omega) <| CN <| Op1.fieldAddr fld43_2 rfl <| CN <| Op1.load1 (v := .int .i64 _) ty3 rfl rfl (Res.rs2_cellF ((Res.rs_of_sl (hst.hL _ (.tail _ (.tail _ (.head _)))))) (flat_cell (g := tokC) (d := tok0) tokC_len rfl (by omega))) <| CN <| Op1.call2 (v1 := .int .i64 _) (v2 := .int .i64 _) ent12 rfl rfl rfl <| Ret.det (R6as_spot _ _ _) hst fun w hst => CN (SO (v := .agg #[.int .u32 _, .int .u32 _]) hst ty24 rfl rfl (.there (.there (.there (.there (.here))))) fun w hst => ?_)
       refine CN (SO (v := .agg #[.int .i64 _, .int .i64 _]) hst ty27 rfl rfl (.there (.there (.there (.here)))) fun w hst => ?_)
       refine NL <| run_ret2 Tryd.func5 rfl (RV.cellA (vs := [.int .u32 _, .int .u32 _]) rfl ty24 rfl rfl (cells_of_obj (n := 2) (hst.objL (.tail _ (.tail _ (.tail _ (.tail _ (.head _)))))) _ rfl)) (RV.cellA (vs := [.int .i64 _, .int .i64 _]) rfl ty27 rfl rfl (cells_of_obj (n := 2) (hst.objL (.tail _ (.tail _ (.tail _ (.head _))))) _ rfl)) ?_
       have he : headF s = headL s.length (toksF s).1 := if_neg g1
       rw [he, hJ.badk (by omega) (by omega) (by omega) g17]
       exact ⟨rfl, hst.pure⟩
     refine run_skip <| SR <| MI rfl <| CN <| Op1.gtr rfl rfl <| NL <| run_cond_dec rfl (fun g18 => ?_) (fun g18 => ?_)
     · skip
       refine SR <| ML rfl <| MI rfl <| CN <| Op1.indexRs ty39 ty43 ((Res.rs_of_sl (hst.hL _ (.tail _ (.tail _ (.head _)))))) rfl rfl (by omega) (by omega) <| CN <| Op1.fieldAddr fld43_1 rfl <| CN <| Op1.load1 (v := str _) ty9 rfl rfl (Res.rs2_cellF ((Res.rs_of_sl (hst.hL _ (.tail _ (.tail _ (.head _)))))) (flat_cell (g := tokC) (d := tok0) tokC_len rfl (by omega))) <| CN <| Op1.call1 (v1 := str _) ent13 rfl rfl <| Ret.det (R6lx_Number ((toksF s).1.getD k tok0).text _ (by have := wsz_mem (l := (toksF s).1) (i := k) (by omega); omega)) hst fun w hst => CN <| Op1.move (v := .tuple #[.int .u32 _, .int .i64 _]) rfl <| CN <| Op1.extract (v := .int .u32 _) rfl rfl <| CN <| Op1.extract (v := .int .i64 _) rfl rfl <| AU rfl <| AI rfl <| NL <| SQ ?_
       refine SR <| MI rfl <| CN <| Op1.neq rfl rfl <| NL <| run_cond_dec rfl (fun g19 => ?_) (fun g19 => ?_)
       · skip
         refine SR <| CN (Op1.buildStruct ty24 stf24 .nil ?_)
         refine MI rfl <| ML rfl <| MI rfl <| CN <| Op1.indexRs ty39 ty43 ((Res.rs_of_sl (hst.hL _ (.tail _ (.tail _ (.head _)))))) rfl rfl (by omega) (by omega) <| CN <| Op1.fieldAddr fld43_2 rfl <| CN <| Op1.load1 (v := .int .i64 _) ty3 rfl rfl (Res.rs2_cellF ((Res.rs_of_sl (hst.hL _ (.tail _ (.tail _ (.head _)))))) (flat_cell (g := tokC) (d := tok0) tokC_len rfl (by omega))) <| CN <| Op1.call2 (v1 := .int .i64 _) (v2 := .int .i64 _) ent12 rfl rfl rfl <| Ret.det (R6as_spot _ _ _) hst fun w hst => CN (SO (v := .agg #[.int .u32 _, .int .u32 _]) hst ty24 rfl rfl (.there (.there (.there (.there (.here))))) fun w hst => ?_)
         refine CN (SO (v := .agg #[.int .i64 _, .int .i64 _]) hst ty27 rfl rfl (.there (.there (.there (.here)))) fun w hst => ?_)
         refine NL <| run_ret2 Tryd.func5 rfl (RV.cellA (vs := [.int .u32 _, .int .u32 _]) rfl ty24 rfl rfl (cells_of_obj (n := 2) (hst.objL (.tail _ (.tail _ (.tail _ (.tail _ (.head _)))))) _ rfl)) (RV.cellA (vs := [.int .i64 _, .int .i64 _]) rfl ty27 rfl rfl (cells_of_obj (n := 2) (hst.objL (.tail _ (.tail _ (.tail _ (.head _))))) _ rfl)) ?_
         have he : headF s = headL s.length (toksF s).1 := if_neg g1
         rw [he, hJ.num (by omega) (by omega) (by omega) (Classical.not_not.1 g17) g19]
         exact ⟨rfl, hst.pure⟩
       refine run_skip <| SR <| MI rfl <| CN <| Op1.eql rfl rfl <| NL <| run_cond_dec rfl (fun g20 => ?_) (fun g20 => ?_)
       · skip
         refine RG <| MU rfl <| CN <| Op1.fieldAddr fld24_0 rfl <| CN (SO (v := .int .u32 _) hst ty22 rfl rfl (.here) fun w hst => ?_)
         refine NL <| run_inBlock <| Run.forget [(0, str _), (2, .pointer (some ⟨_, _, none⟩)), (3, .pointer (some ⟨_, _, none⟩)), (4, .slice _ _ _), (6, .pointer (some ⟨_, _, none⟩)), (7, .int .i64 _)] ⟨rfl, rfl, rfl, rfl, rfl, rfl, trivial⟩ fun f => RG <| MI rfl <| CN <| Op1.addN rfl rfl rfl (wrap_i64 (by omega) (by omega)) <| AI rfl <| NL <| run_inLoop ?_
         exact ih8 ((k + 1, (numLx ((toksF s).1.getD k tok0).text).1, bd)) _ w ((by (try dsimp only); omega)) hst ((hJ.step1 (by omega) (by omega) (Classical.not_not.1 g17) (Classical.not_not.1 g19))) ⟨rfl, rfl, rfl, rfl, rfl, trivial⟩ ⟨(congrArg (Value.int .i64) (by (try dsimp only); omega)), trivial⟩
       refine SR <| MU rfl <| CN <| Op1.fieldAddr fld24_1 rfl <| CN (SO (v := .int .u32 _) hst ty22 rfl rfl (.here) fun w hst => ?_)
       refine NL <| Run.forget [(0, str _), (2, .pointer (some ⟨_, _, none⟩)), (3, .pointer (some ⟨_, _, none⟩)), (4, .slice _ _ _), (6, .pointer (some ⟨_, _, none⟩)), (7, .int .i64 _), (8, .int .u32 _)] ⟨rfl, rfl, rfl, rfl, rfl, rfl, rfl, trivial⟩ fun f => SR <| MU rfl <| CN <| Op1.lss rfl rfl <| MB rfl <| RunL.splitD (d := 96) rfl (fun g21 => ?_) (fun g21 => ?_)
       · skip
         refine OM (t := 96) rfl (congrArg Value.bool (decide_eq_true g21)) rfl <| OM (t := 96) rfl (congrArg Value.bool (decide_eq_true g21)) rfl <| CN <| Op1.pickT (u := .bool _) (congrArg Value.bool (decide_eq_true g21)) rfl <| NL <| run_cond_true (congrArg Value.bool (rfl : true = _)) <| SR <| CN (Op1.buildStruct ty24 stf24 .nil ?_)
         refine ML rfl <| MI rfl <| CN <| Op1.indexRs ty39 ty43 ((Res.rs_of_sl (hst.hL _ (.tail _ (.tail _ (.head _)))))) rfl rfl (by omega) (by omega) <| CN <| Op1.fieldAddr fld43_2 rfl <| CN <| Op1.load1 (v := .int .i64 _) ty3 rfl rfl (Res.rs2_cellF ((Res.rs_of_sl (hst.hL _ (.tail _ (.tail _ (.head _)))))) (flat_cell (g := tokC) (d := tok0) tokC_len rfl (by omega))) <| CN <| Op1.call2 (v1 := .int .i64 _) (v2 := .int .i64 _) ent12 rfl rfl rfl <| Ret.det (R6as_spot _ _ _) hst fun w hst => CN (SO (v := .agg #[.int .u32 _, .int .u32 _]) hst ty24 rfl rfl (.there (.there (.there (.there (.here))))) fun w hst => ?_)
         refine CN (SO (v := .agg #[.int .i64 _, .int .i64 _]) hst ty27 rfl rfl (.there (.there (.there (.here)))) fun w hst => ?_)
         refine NL <| run_ret2 Tryd.func5 rfl (RV.cellA (vs := [.int .u32 _, .int .u32 _]) rfl ty24 rfl rfl (cells_of_obj (n := 2) (hst.objL (.tail _ (.tail _ (.tail _ (.tail _ (.head _)))))) _ rfl)) (RV.cellA (vs := [.int .i64 _, .int .i64 _]) rfl ty27 rfl rfl (cells_of_obj (n := 2) (hst.objL (.tail _ (.tail _ (.tail _ (.head _))))) _ rfl)) ?_
         have he : headF s = headL s.length (toksF s).1 := if_neg g1
         rw [he, hJ.bound (by omega) (by omega) (Classical.not_not.1 g17) (Classical.not_not.1 g19) (.inl (by omega))]
         exact ⟨rfl, hst.pure⟩
       refine TK (t := 96) rfl (congrArg Value.bool (decide_eq_false g21)) <| Op1.move (v := .int .u32 _) rfl <| TK (t := 96) rfl (congrArg Value.bool (decide_eq_false g21)) <| Op1.gtr rfl rfl <| CN <| Op1.pickF (u := .bool _) (congrArg Value.bool (decide_eq_false g21)) rfl <| NL <| run_cond_dec rfl (fun g22 => ?_) (fun g22 => ?_)
       · skip
         refine SR <| CN (Op1.buildStruct ty24 stf24 .nil ?_)
         refine ML rfl <| MI rfl <| CN <| Op1.indexRs ty39 ty43 ((Res.rs_of_sl (hst.hL _ (.tail _ (.tail _ (.head _)))))) rfl rfl (by omega) (by omega) <| CN <| Op1.fieldAddr fld43_2 rfl <| CN <| Op1.load1 (v := .int .i64 _) ty3 rfl rfl (Res.rs2_cellF ((Res.rs_of_sl (hst.hL _ (.tail _ (.tail _ (.head _)))))) (flat_cell (g := tokC) (d := tok0) tokC_len rfl (by omega))) <| CN <| Op1.call2 (v1 := .int .i64 _) (v2 := .int .i64 _) ent12 rfl rfl rfl <| Ret.det (R6as_spot _ _ _) hst fun w hst => CN (SO (v := .agg #[.int .u32 _, .int .u32 _]) hst ty24 rfl rfl (.there (.there (.there (.there (.here))))) fun w hst => ?_)
         refine CN (SO (v := .agg #[.int .i64 _, .int .i64 _]) hst ty27 rfl rfl (.there (.there (.there (.here)))) fun w hst => ?_)
         refine NL <| run_ret2 Tryd.func5 rfl (RV.cellA (vs := [.int .u32 _, .int .u32 _]) rfl ty24 rfl rfl (cells_of_obj (n := 2) (hst.objL (.tail _ (.tail _ (.tail _ (.tail _ (.head _)))))) _ rfl)) (RV.cellA (vs := [.int .i64 _, .int .i64 _]) rfl ty27 rfl rfl (cells_of_obj (n := 2) (hst.objL (.tail _ (.tail _ (.tail _ (.head _))))) _ rfl)) ?_
         have he : headF s = headL s.length (toksF s).1 := if_neg g1
         rw [he, hJ.bound (by omega) (by omega) (Classical.not_not.1 g17) (Classical.not_not.1 g19) (.inr (by omega))]
         exact ⟨rfl, hst.pure⟩
       refine run_skip <| run_inBlock <| RG <| MI rfl <| CN <| Op1.addN rfl rfl rfl (wrap_i64 (by omega) (by omega)) <| AI rfl <| NL <| run_inLoop ?_
       exact ih8 ((k + 1, gn, (numLx ((toksF s).1.getD k tok0).text).1)) _ w ((by (try dsimp only); omega)) hst ((hJ.step2 (by omega) (by omega) (Classical.not_not.1 g17) (Classical.not_not.1 g19) (by have h1 := g22; have h2 := g21; omega))) ⟨rfl, rfl, rfl, rfl, rfl, trivial⟩ ⟨(congrArg (Value.int .i64) (by (try dsimp only); omega)), trivial⟩
     exfalso
     omega
   exfalso
   omega
 refine run_exit (id := 0) rfl <| SQ <| SR <| ML rfl <| CN <| Op1.lenSl (rest := []) ty39 rfl <| CN <| Op1.lss rfl rfl <| NL <| run_cond_dec rfl (fun g23 => ?_) (fun g23 => ?_)
 · skip
   refine SR <| CN (Op1.buildStruct ty24 stf24 .nil ?_)
   refine MS rfl <| CN <| Op1.lenS (rest := []) ty9 rfl <| CN <| Op1.call2 (v1 := .int .i64 _) (v2 := .int .i64 _) ent12 rfl rfl rfl <| Ret.det (R6as_spot _ _ _) hst fun w hst => CN (SO (v := .agg #[.int .u32 _, .int .u32 _]) hst ty24 rfl rfl (.there (.there (.there (.there (.here))))) fun w hst => ?_)
   refine CN (SO (v := .agg #[.int .i64 _, .int .i64 _]) hst ty27 rfl rfl (.there (.there (.there (.here)))) fun w hst => ?_)
   refine NL <| run_ret2 Tryd.func5 rfl (RV.cellA (vs := [.int .u32 _, .int .u32 _]) rfl ty24 rfl rfl (cells_of_obj (n := 2) (hst.objL (.tail _ (.tail _ (.tail _ (.tail _ (.head _)))))) _ rfl)) (RV.cellA (vs := [.int .i64 _, .int .i64 _]) rfl ty27 rfl rfl (cells_of_obj (n := 2) (hst.objL (.tail _ (.tail _ (.tail _ (.head _))))) _ rfl)) ?_
   have he : headF s = headL s.length (toksF s).1 := if_neg g1
   rw [he, hJ.short (by omega) (by omega)]
   exact ⟨rfl, hst.pure⟩
 refine run_skip <| SR <| CN <| Op1.loadA (vs := [.int .u32 _, .int .u32 _]) ty24 rfl rfl rfl (cells_of_obj (n := 2) (hst.objL (.head _)) _ rfl) <| CN (Op1.buildStruct ty27 stf27 .nil ?_)
 refine CN (SO (v := .agg #[.int .u32 _, .int .u32 _]) hst ty24 rfl rfl (.there (.there (.there (.there (.here))))) fun w hst => ?_)
 refine CN (SO (v := .agg #[.int .i64 _, .int .i64 _]) hst ty27 rfl rfl (.there (.there (.there (.here)))) fun w hst => ?_)
 refine NL <| run_ret2 Tryd.func5 rfl (RV.cellA (vs := [.int .u32 _, .int .u32 _]) rfl ty24 rfl rfl (cells_of_obj (n := 2) (hst.objL (.tail _ (.tail _ (.tail _ (.tail _ (.head _)))))) _ rfl)) (RV.cellA (vs := [.int .i64 _, .int .i64 _]) rfl ty27 rfl rfl (cells_of_obj (n := 2) (hst.objL (.tail _ (.tail _ (.tail _ (.head _))))) _ rfl)) ?_
 have he : headF s = headL s.length (toksF s).1 := if_neg g1
 rw [he, hJ.fin (by omega) (by omega)]
 exact ⟨rfl, hst.pure⟩
theorem R6law_AsmHeads (s : Tx) (w : World) (hG : LxG.holds w) (hl : s.length ≤ 1099511627776) : Ret Tryd.prog 3 #[str s] w (fun v w' => v = .bool true ∧ St w NoM [] [] w') := by
 refine Ret.enter (args := [str s]) Tryd.func3 rfl rfl rfl ?_
 have hst : St w NoM [] [LxG] w := St.init_Ds (by simp only [List.forall_mem_cons]; exact ⟨hG, fun _ h => absurd h List.not_mem_nil⟩)
 refine SR <| AB rfl <| NSR <| MS rfl <| CN <| Op1.call1 (v1 := str _) ent5 rfl rfl <| Ret.det (R6ref7_Head s _ (hst.hD _ (.head _)) hl) hst fun w hst => CN <| Op1.move (v := .tuple #[.agg #[.int .u32 _, .int .u32 _], .agg #[.int .i64 _, .int .i64 _]]) rfl <| CN <| Op1.extract (v := .agg #[.int .u32 _, .int .u32 _]) rfl rfl <| CN <| Op1.extract (v := .agg #[.int .i64 _, .int .i64 _]) rfl rfl <| CN <| Op1.alloc hst ty24 fun w b3 hst => CN <| Op1.alloc hst ty27 fun w b4 hst => CN (SO (v := .agg #[.int .u32 _, .int .u32 _]) hst ty24 rfl rfl (.there (.here)) fun w hst => ?_)
 refine CN (SO (v := .agg #[.int .i64 _, .int .i64 _]) hst ty27 rfl rfl (.here) fun w hst => ?_)
 refine NSR <| MS rfl <| CN <| Op1.call1 (v1 := str _) ent6 rfl rfl <| Ret.det (R6as_Head s _ (hst.hD _ (.head _)) hl) hst fun w hst => CN <| Op1.move (v := .tuple #[.agg #[.int .u32 _, .int .u32 _], .agg #[.int .i64 _, .int .i64 _]]) rfl <| CN <| Op1.extract (v := .agg #[.int .u32 _, .int .u32 _]) rfl rfl <| CN <| Op1.extract (v := .agg #[.int .i64 _, .int .i64 _]) rfl rfl <| CN <| Op1.alloc hst ty24 fun w b5 hst => CN <| Op1.alloc hst ty27 fun w b6 hst => CN (SO (v := .agg #[.int .u32 _, .int .u32 _]) hst ty24 rfl rfl (.there (.here)) fun w hst => ?_)
 refine CN (SO (v := .agg #[.int .i64 _, .int .i64 _]) hst ty27 rfl rfl (.here) fun w hst => ?_)
 refine NSR <| CN <| Op1.loadA (vs := [.int .u32 _, .int .u32 _]) ty24 rfl rfl rfl (cells_of_obj (n := 2) (hst.objL (.tail _ (.head _))) _ rfl) <| CN <| Op1.loadA (vs := [.int .u32 _, .int .u32 _]) ty24 rfl rfl rfl (cells_of_obj (n := 2) (hst.objL (.tail _ (.tail _ (.tail _ (.head _))))) _ rfl) <| CN <| Op1.eqlA (xs := [.int .u32 _, .int .u32 _]) (ys := [.int .u32 _, .int .u32 _]) rfl rfl (by kernel_rfl) (EqOk.struct Tryd.underlying24 (by kernel_rfl) (.cons (by decide) (PartOk.one ty22 rfl rfl) (PartOk.one ty22 rfl rfl) (EqOk.int ty22) (.cons (by decide) (PartOk.one ty22 rfl rfl) (PartOk.one ty22 rfl rfl) (EqOk.int ty22) .nil))) <| MB rfl <| RunL.split (d := 20) rfl (fun g1 => ?_) (fun g1 => ?_)
 · skip
   refine TK (t := 20) rfl (congrArg Value.bool g1) <| Op1.loadA (vs := [.int .i64 _, .int .i64 _]) ty27 rfl rfl rfl (cells_of_obj (n := 2) (hst.objL (.head _)) _ rfl) <| TK (t := 20) rfl (congrArg Value.bool g1) <| Op1.loadA (vs := [.int .i64 _, .int .i64 _]) ty27 rfl rfl rfl (cells_of_obj (n := 2) (hst.objL (.tail _ (.tail _ (.head _)))) _ rfl) <| TK (t := 20) rfl (congrArg Value.bool g1) <| Op1.eqlA (xs := [.int .i64 _, .int .i64 _]) (ys := [.int .i64 _, .int .i64 _]) rfl rfl (by kernel_rfl) (EqOk.struct Tryd.underlying27 (by kernel_rfl) (.cons (by decide) (PartOk.one ty25 rfl rfl) (PartOk.one ty25 rfl rfl) (EqOk.int ty25) (.cons (by decide) (PartOk.one ty3 rfl rfl) (PartOk.one ty3 rfl rfl) (EqOk.int ty3) .nil))) <| CN <| Op1.pickT (u := .bool _) (congrArg Value.bool g1) rfl <| AB rfl <| NL <| run_ret1 Tryd.func3 rfl (TP (v := .bool _) rfl) ?_
   exact ⟨by simp, hst.pure⟩
 exfalso
 simp at g1
end Go.SK
