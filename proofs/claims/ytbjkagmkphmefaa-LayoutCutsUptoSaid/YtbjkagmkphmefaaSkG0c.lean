/-
  Steps of functions, plain law, and walks of functions: what the laws rest on.
-/
import Derived.Test.YtbjkagmkphmefaaSkG0b
set_option linter.unusedVariables false
set_option linter.unusedSimpArgs false
set_option linter.unusedSectionVars false
namespace Go.SK
open Go Go.Proofs
open Go.RowKit
theorem R5gr_number (s : Byts) (hasc : ∀ c ∈ s, c.toNat < 128) (w : World) : Ret Try.prog 88 #[str s] w (fun v w' => v = .int .u32 (numF s) ∧ St w NoM [] [] w') := by
 refine Ret.enter (args := [str s]) Try.func88 rfl rfl rfl ?_
 have hst := St.init w
 refine SR <| AU rfl <| NSR <| AU rfl <| NL <| SQ <| SR <| MS rfl <| CN <| Op1.rangeS hst ty9 rfl fun w it7 hst => NL <| run_block ?_
 refine run_loop <| Run.indW [(7, .pointer (some ⟨_, 0, none⟩))] ⟨rfl, trivial⟩ (fun (i : Nat) => [(3, .int .u32 (numF (s.take i)))]) (fun (i : Nat) => [Res.iter it7 s i]) (fun (i : Nat) => i ≤ s.length) (fun (i : Nat) => s.length - i) (0) hst (Nat.zero_le _) ⟨rfl, trivial⟩ ?_
 intro i f w hst hJ ih1
 refine SQ <| RG ?_
 rcases Nat.lt_or_ge i s.length with g2 | g2
 · skip
   have hc := hasc _ (List.getElem_mem g2)
   have hstep := numF_step g2
   refine CN (Op1.nextS hst rfl (.here) (List.getElem?_eq_getElem g2) (hc) fun w hst => ?_)
   refine CN <| Op1.extract (v := .bool _) rfl rfl <| NL <| SQ <| run_cond_true (congrArg Value.bool (rfl : true = _)) <| run_skip <| run_block <| SR <| CN <| Op1.extract (v := .int .i32 _) rfl rfl <| CN <| Op1.assign (v := .int .i32 _) rfl <| NR <| MU rfl <| CN <| Op1.mul rfl rfl <| CN (Op1.move (v := .int .i32 _) rfl ?_)
   refine CN (Op1.subN rfl rfl rfl (wrap_i32 (by omega) (by omega)) ?_)
   first | refine CN (Op1.convN ty21 ty22 rfl (wrap_u32 (by omega) (by omega)) ?_) | refine CN (Op1.conv ty21 ty22 rfl ?_)
   refine CN <| Op1.add rfl rfl <| AU rfl <| NL <| run_inBlock <| run_inLoop ?_
   exact ih1 (i + 1) _ w (by omega) hst (by omega) ⟨rfl, trivial⟩ ⟨(congrArg (Value.int .u32) (by rw [hstep]; rfl)), trivial⟩
 obtain rfl : i = s.length := by omega
 refine CN <| Op1.nextE hst rfl (.head _) g2 <| CN <| Op1.extract (v := .bool _) rfl rfl <| NL <| SQ <| run_cond_false (congrArg Value.bool (rfl : false = _)) <| run_exit (id := 0) rfl <| SR <| MU rfl <| AU rfl <| NL <| run_ret1 Try.func88 rfl (TP (v := .int .u32 _) rfl) ?_
 exact ⟨congrArg (Value.int .u32) (by rw [List.take_length]), hst.pure⟩
theorem R5ref_form (op : Int) (name : Byts) (t r : Bool) (fixed rest : Byts) (most part : Int) (w : World) : Ret Try.prog 47 #[.int .u16 op, str name, .bool t, .bool r, str fixed, str rest, .int .i64 most, .int .u8 part] w (fun v w' => v = .agg #[.int .u16 op, str name, .bool t, .bool r, str fixed, str rest, .int .i64 most, .int .u8 part] ∧ St w NoM [] [] w') := by
 refine Ret.enter (args := [.int .u16 op, str name, .bool t, .bool r, str fixed, str rest, .int .i64 most, .int .u8 part]) Try.func47 rfl rfl rfl ?_
 have hst := St.init w
 refine SR <| CN <| Op1.alloc hst ty74 fun w b16 hst => NSR <| MH rfl <| MS rfl <| MB rfl <| MB rfl <| MS rfl <| MS rfl <| MI rfl <| MC rfl <| CN (Op1.buildStruct ty74 stf74 (.c (v := .int .u16 _) rfl (h := (.c (v := str _) rfl (h := (.c (v := .bool _) rfl (h := (.c (v := .bool _) rfl (h := (.c (v := str _) rfl (h := (.c (v := str _) rfl (h := (.c (v := .int .i64 _) rfl (h := (.c (v := .int .u8 _) rfl (h := .nil)))))))))))))))) ?_)
 refine CN (SO (v := .agg #[.int .u16 _, str _, .bool _, .bool _, str _, str _, .int .i64 _, .int .u8 _]) hst ty74 rfl rfl (.here) fun w hst => ?_)
 refine NL <| run_ret1 Try.func47 rfl (RV.cellA (vs := [.int .u16 _, str _, .bool _, .bool _, str _, str _, .int .i64 _, .int .u8 _]) rfl ty74 rfl rfl (cells_of_obj (n := 8) (hst.objL (.head _)) _ rfl)) ?_
 exact ⟨rfl, hst.pure⟩
set_option maxRecDepth 4000 in
set_option maxHeartbeats 4000000 in
theorem R5ref_Of (op : Int) (w : World) : Ret Try.prog 35 #[.int .u16 op] w (fun v w' => v = formV (refS op) ∧ St w NoM [] [] w') := by
 refine Ret.enter (args := [.int .u16 op]) Try.func35 rfl rfl rfl ?_
 have hst := St.init w
 refine SR <| CN <| Op1.alloc hst ty74 fun w b2 hst => AB rfl <| NL <| SQ <| SR <| MH rfl <| NL <| run_block <| SR <| CN <| Op1.eql rfl rfl <| AB rfl ?_
 refine NL <| run_cond_dec rfl (fun g1 => ?_) (fun g1 => ?_)
 · skip
   refine SR <| MH rfl <| CN <| Op1.call8 (v1 := .int .u16 _) (v2 := str _) (v3 := .bool _) (v4 := .bool _) (v5 := str _) (v6 := str _) (v7 := .int .i64 _) (v8 := .int .u8 _) ent47 rfl rfl rfl rfl rfl rfl rfl rfl rfl <| Ret.det (R5ref_form _ _ _ _ _ _ _ _ _) hst fun w hst => CN (SO (v := .agg #[.int .u16 _, str _, .bool _, .bool _, str _, str _, .int .i64 _, .int .u8 _]) hst ty74 rfl rfl (.here) fun w hst => ?_)
   refine AB rfl <| NL <| run_ret2 Try.func35 rfl (RV.cellA (vs := [.int .u16 _, str _, .bool _, .bool _, str _, str _, .int .i64 _, .int .u8 _]) rfl ty74 rfl rfl (cells_of_obj (n := 8) (hst.objL (.head _)) _ rfl)) (TP (v := .bool _) rfl) ?_
   subst g1
   have e : refS 1 = some ⟨1, [79, 112, 85, 110, 100, 101, 102], true, true, [], [], 0, 7⟩ := by decide +kernel
   rw [e]
   exact ⟨rfl, hst.pure⟩
 refine SR <| CN <| Op1.eql rfl rfl <| AB rfl <| NL <| run_cond_dec rfl (fun g2 => ?_) (fun g2 => ?_)
 · skip
   refine SR <| MH rfl <| CN <| Op1.call8 (v1 := .int .u16 _) (v2 := str _) (v3 := .bool _) (v4 := .bool _) (v5 := str _) (v6 := str _) (v7 := .int .i64 _) (v8 := .int .u8 _) ent47 rfl rfl rfl rfl rfl rfl rfl rfl rfl <| Ret.det (R5ref_form _ _ _ _ _ _ _ _ _) hst fun w hst => CN (SO (v := .agg #[.int .u16 _, str _, .bool _, .bool _, str _, str _, .int .i64 _, .int .u8 _]) hst ty74 rfl rfl (.here) fun w hst => ?_)
   refine AB rfl <| NL <| run_ret2 Try.func35 rfl (RV.cellA (vs := [.int .u16 _, str _, .bool _, .bool _, str _, str _, .int .i64 _, .int .u8 _]) rfl ty74 rfl rfl (cells_of_obj (n := 8) (hst.objL (.head _)) _ rfl)) (TP (v := .bool _) rfl) ?_
   subst g2
   have e : refS 3 = some ⟨3, [79, 112, 83, 111, 117, 114, 99, 101], false, false, [108, 110], [], 0, 4⟩ := by decide +kernel
   rw [e]
   exact ⟨rfl, hst.pure⟩
 refine SR <| CN <| Op1.eql rfl rfl <| AB rfl <| NL <| run_cond_dec rfl (fun g3 => ?_) (fun g3 => ?_)
 · skip
   refine SR <| MH rfl <| CN <| Op1.call8 (v1 := .int .u16 _) (v2 := str _) (v3 := .bool _) (v4 := .bool _) (v5 := str _) (v6 := str _) (v7 := .int .i64 _) (v8 := .int .u8 _) ent47 rfl rfl rfl rfl rfl rfl rfl rfl rfl <| Ret.det (R5ref_form _ _ _ _ _ _ _ _ _) hst fun w hst => CN (SO (v := .agg #[.int .u16 _, str _, .bool _, .bool _, str _, str _, .int .i64 _, .int .u8 _]) hst ty74 rfl rfl (.here) fun w hst => ?_)
   refine AB rfl <| NL <| run_ret2 Try.func35 rfl (RV.cellA (vs := [.int .u16 _, str _, .bool _, .bool _, str _, str _, .int .i64 _, .int .u8 _]) rfl ty74 rfl rfl (cells_of_obj (n := 8) (hst.objL (.head _)) _ rfl)) (TP (v := .bool _) rfl) ?_
   subst g3
   have e : refS 5 = some ⟨5, [79, 112, 78, 97, 109, 101], false, false, [105, 115], [], 0, 5⟩ := by decide +kernel
   rw [e]
   exact ⟨rfl, hst.pure⟩
 refine SR <| CN <| Op1.eql rfl rfl <| AB rfl <| NL <| run_cond_dec rfl (fun g4 => ?_) (fun g4 => ?_)
 · skip
   refine SR <| MH rfl <| CN <| Op1.call8 (v1 := .int .u16 _) (v2 := str _) (v3 := .bool _) (v4 := .bool _) (v5 := str _) (v6 := str _) (v7 := .int .i64 _) (v8 := .int .u8 _) ent47 rfl rfl rfl rfl rfl rfl rfl rfl rfl <| Ret.det (R5ref_form _ _ _ _ _ _ _ _ _) hst fun w hst => CN (SO (v := .agg #[.int .u16 _, str _, .bool _, .bool _, str _, str _, .int .i64 _, .int .u8 _]) hst ty74 rfl rfl (.here) fun w hst => ?_)
   refine AB rfl <| NL <| run_ret2 Try.func35 rfl (RV.cellA (vs := [.int .u16 _, str _, .bool _, .bool _, str _, str _, .int .i64 _, .int .u8 _]) rfl ty74 rfl rfl (cells_of_obj (n := 8) (hst.objL (.head _)) _ rfl)) (TP (v := .bool _) rfl) ?_
   subst g4
   have e : refS 6 = some ⟨6, [79, 112, 77, 101, 109, 98, 101, 114, 78, 97, 109, 101], false, false, [105, 110, 115], [], 0, 5⟩ := by decide +kernel
   rw [e]
   exact ⟨rfl, hst.pure⟩
 refine SR <| CN <| Op1.eql rfl rfl <| AB rfl <| NL <| run_cond_dec rfl (fun g5 => ?_) (fun g5 => ?_)
 · skip
   refine SR <| MH rfl <| CN <| Op1.call8 (v1 := .int .u16 _) (v2 := str _) (v3 := .bool _) (v4 := .bool _) (v5 := str _) (v6 := str _) (v7 := .int .i64 _) (v8 := .int .u8 _) ent47 rfl rfl rfl rfl rfl rfl rfl rfl rfl <| Ret.det (R5ref_form _ _ _ _ _ _ _ _ _) hst fun w hst => CN (SO (v := .agg #[.int .u16 _, str _, .bool _, .bool _, str _, str _, .int .i64 _, .int .u8 _]) hst ty74 rfl rfl (.here) fun w hst => ?_)
   refine AB rfl <| NL <| run_ret2 Try.func35 rfl (RV.cellA (vs := [.int .u16 _, str _, .bool _, .bool _, str _, str _, .int .i64 _, .int .u8 _]) rfl ty74 rfl rfl (cells_of_obj (n := 8) (hst.objL (.head _)) _ rfl)) (TP (v := .bool _) rfl) ?_
   subst g5
   have e : refS 7 = some ⟨7, [79, 112, 83, 116, 114, 105, 110, 103], false, true, [115], [], 0, 4⟩ := by decide +kernel
   rw [e]
   exact ⟨rfl, hst.pure⟩
 refine SR <| CN <| Op1.eql rfl rfl <| AB rfl <| NL <| run_cond_dec rfl (fun g6 => ?_) (fun g6 => ?_)
 · skip
   refine SR <| MH rfl <| CN <| Op1.call8 (v1 := .int .u16 _) (v2 := str _) (v3 := .bool _) (v4 := .bool _) (v5 := str _) (v6 := str _) (v7 := .int .i64 _) (v8 := .int .u8 _) ent47 rfl rfl rfl rfl rfl rfl rfl rfl rfl <| Ret.det (R5ref_form _ _ _ _ _ _ _ _ _) hst fun w hst => CN (SO (v := .agg #[.int .u16 _, str _, .bool _, .bool _, str _, str _, .int .i64 _, .int .u8 _]) hst ty74 rfl rfl (.here) fun w hst => ?_)
   refine AB rfl <| NL <| run_ret2 Try.func35 rfl (RV.cellA (vs := [.int .u16 _, str _, .bool _, .bool _, str _, str _, .int .i64 _, .int .u8 _]) rfl ty74 rfl rfl (cells_of_obj (n := 8) (hst.objL (.head _)) _ rfl)) (TP (v := .bool _) rfl) ?_
   subst g6
   have e : refS 14 = some ⟨14, [79, 112, 77, 101, 109, 111, 114, 121, 77, 111, 100, 101, 108], false, false, [97, 109], [], 0, 1⟩ := by decide +kernel
   rw [e]
   exact ⟨rfl, hst.pure⟩
 refine SR <| CN <| Op1.eql rfl rfl <| AB rfl <| NL <| run_cond_dec rfl (fun g7 => ?_) (fun g7 => ?_)
 · skip
   refine SR <| MH rfl <| CN <| Op1.call8 (v1 := .int .u16 _) (v2 := str _) (v3 := .bool _) (v4 := .bool _) (v5 := str _) (v6 := str _) (v7 := .int .i64 _) (v8 := .int .u8 _) ent47 rfl rfl rfl rfl rfl rfl rfl rfl rfl <| Ret.det (R5ref_form _ _ _ _ _ _ _ _ _) hst fun w hst => CN (SO (v := .agg #[.int .u16 _, str _, .bool _, .bool _, str _, str _, .int .i64 _, .int .u8 _]) hst ty74 rfl rfl (.here) fun w hst => ?_)
   refine AB rfl <| NL <| run_ret2 Try.func35 rfl (RV.cellA (vs := [.int .u16 _, str _, .bool _, .bool _, str _, str _, .int .i64 _, .int .u8 _]) rfl ty74 rfl rfl (cells_of_obj (n := 8) (hst.objL (.head _)) _ rfl)) (TP (v := .bool _) rfl) ?_
   subst g7
   have e : refS 15 = some ⟨15, [79, 112, 69, 110, 116, 114, 121, 80, 111, 105, 110, 116], false, false, [101, 105, 115], [105], 0, 2⟩ := by decide +kernel
   rw [e]
   exact ⟨rfl, hst.pure⟩
 refine SR <| CN <| Op1.eql rfl rfl <| AB rfl <| NL <| Run.forget [(0, .int .u16 _), (2, .pointer (some ⟨_, _, none⟩)), (4, .int .u16 _), (33, .bool _)] ⟨rfl, rfl, rfl, rfl, trivial⟩ fun f => run_cond_dec rfl (fun g8 => ?_) (fun g8 => ?_)
 · skip
   refine SR <| MH rfl <| CN <| Op1.call8 (v1 := .int .u16 _) (v2 := str _) (v3 := .bool _) (v4 := .bool _) (v5 := str _) (v6 := str _) (v7 := .int .i64 _) (v8 := .int .u8 _) ent47 rfl rfl rfl rfl rfl rfl rfl rfl rfl <| Ret.det (R5ref_form _ _ _ _ _ _ _ _ _) hst fun w hst => CN (SO (v := .agg #[.int .u16 _, str _, .bool _, .bool _, str _, str _, .int .i64 _, .int .u8 _]) hst ty74 rfl rfl (.here) fun w hst => ?_)
   refine AB rfl <| NL <| run_ret2 Try.func35 rfl (RV.cellA (vs := [.int .u16 _, str _, .bool _, .bool _, str _, str _, .int .i64 _, .int .u8 _]) rfl ty74 rfl rfl (cells_of_obj (n := 8) (hst.objL (.head _)) _ rfl)) (TP (v := .bool _) rfl) ?_
   subst g8
   have e : refS 16 = some ⟨16, [79, 112, 69, 120, 101, 99, 117, 116, 105, 111, 110, 77, 111, 100, 101], false, false, [105, 120], [], 0, 3⟩ := by decide +kernel
   rw [e]
   exact ⟨rfl, hst.pure⟩
 refine SR <| CN <| Op1.eql rfl rfl <| AB rfl <| NL <| run_cond_dec rfl (fun g9 => ?_) (fun g9 => ?_)
 · skip
   refine SR <| MH rfl <| CN <| Op1.call8 (v1 := .int .u16 _) (v2 := str _) (v3 := .bool _) (v4 := .bool _) (v5 := str _) (v6 := str _) (v7 := .int .i64 _) (v8 := .int .u8 _) ent47 rfl rfl rfl rfl rfl rfl rfl rfl rfl <| Ret.det (R5ref_form _ _ _ _ _ _ _ _ _) hst fun w hst => CN (SO (v := .agg #[.int .u16 _, str _, .bool _, .bool _, str _, str _, .int .i64 _, .int .u8 _]) hst ty74 rfl rfl (.here) fun w hst => ?_)
   refine AB rfl <| NL <| run_ret2 Try.func35 rfl (RV.cellA (vs := [.int .u16 _, str _, .bool _, .bool _, str _, str _, .int .i64 _, .int .u8 _]) rfl ty74 rfl rfl (cells_of_obj (n := 8) (hst.objL (.head _)) _ rfl)) (TP (v := .bool _) rfl) ?_
   subst g9
   have e : refS 17 = some ⟨17, [79, 112, 67, 97, 112, 97, 98, 105, 108, 105, 116, 121], false, false, [107], [], 0, 0⟩ := by decide +kernel
   rw [e]
   exact ⟨rfl, hst.pure⟩
 refine SR <| CN <| Op1.eql rfl rfl <| AB rfl <| NL <| run_cond_dec rfl (fun g10 => ?_) (fun g10 => ?_)
 · skip
   refine SR <| MH rfl <| CN <| Op1.call8 (v1 := .int .u16 _) (v2 := str _) (v3 := .bool _) (v4 := .bool _) (v5 := str _) (v6 := str _) (v7 := .int .i64 _) (v8 := .int .u8 _) ent47 rfl rfl rfl rfl rfl rfl rfl rfl rfl <| Ret.det (R5ref_form _ _ _ _ _ _ _ _ _) hst fun w hst => CN (SO (v := .agg #[.int .u16 _, str _, .bool _, .bool _, str _, str _, .int .i64 _, .int .u8 _]) hst ty74 rfl rfl (.here) fun w hst => ?_)
   refine AB rfl <| NL <| run_ret2 Try.func35 rfl (RV.cellA (vs := [.int .u16 _, str _, .bool _, .bool _, str _, str _, .int .i64 _, .int .u8 _]) rfl ty74 rfl rfl (cells_of_obj (n := 8) (hst.objL (.head _)) _ rfl)) (TP (v := .bool _) rfl) ?_
   subst g10
   have e : refS 19 = some ⟨19, [79, 112, 84, 121, 112, 101, 86, 111, 105, 100], false, true, [], [], 0, 7⟩ := by decide +kernel
   rw [e]
   exact ⟨rfl, hst.pure⟩
 refine SR <| CN <| Op1.eql rfl rfl <| AB rfl <| NL <| run_cond_dec rfl (fun g11 => ?_) (fun g11 => ?_)
 · skip
   refine SR <| MH rfl <| CN <| Op1.call8 (v1 := .int .u16 _) (v2 := str _) (v3 := .bool _) (v4 := .bool _) (v5 := str _) (v6 := str _) (v7 := .int .i64 _) (v8 := .int .u8 _) ent47 rfl rfl rfl rfl rfl rfl rfl rfl rfl <| Ret.det (R5ref_form _ _ _ _ _ _ _ _ _) hst fun w hst => CN (SO (v := .agg #[.int .u16 _, str _, .bool _, .bool _, str _, str _, .int .i64 _, .int .u8 _]) hst ty74 rfl rfl (.here) fun w hst => ?_)
   refine AB rfl <| NL <| run_ret2 Try.func35 rfl (RV.cellA (vs := [.int .u16 _, str _, .bool _, .bool _, str _, str _, .int .i64 _, .int .u8 _]) rfl ty74 rfl rfl (cells_of_obj (n := 8) (hst.objL (.head _)) _ rfl)) (TP (v := .bool _) rfl) ?_
   subst g11
   have e : refS 20 = some ⟨20, [79, 112, 84, 121, 112, 101, 66, 111, 111, 108], false, true, [], [], 0, 7⟩ := by decide +kernel
   rw [e]
   exact ⟨rfl, hst.pure⟩
 refine SR <| CN <| Op1.eql rfl rfl <| AB rfl <| NL <| run_cond_dec rfl (fun g12 => ?_) (fun g12 => ?_)
 · skip
   refine SR <| MH rfl <| CN <| Op1.call8 (v1 := .int .u16 _) (v2 := str _) (v3 := .bool _) (v4 := .bool _) (v5 := str _) (v6 := str _) (v7 := .int .i64 _) (v8 := .int .u8 _) ent47 rfl rfl rfl rfl rfl rfl rfl rfl rfl <| Ret.det (R5ref_form _ _ _ _ _ _ _ _ _) hst fun w hst => CN (SO (v := .agg #[.int .u16 _, str _, .bool _, .bool _, str _, str _, .int .i64 _, .int .u8 _]) hst ty74 rfl rfl (.here) fun w hst => ?_)
   refine AB rfl <| NL <| run_ret2 Try.func35 rfl (RV.cellA (vs := [.int .u16 _, str _, .bool _, .bool _, str _, str _, .int .i64 _, .int .u8 _]) rfl ty74 rfl rfl (cells_of_obj (n := 8) (hst.objL (.head _)) _ rfl)) (TP (v := .bool _) rfl) ?_
   subst g12
   have e : refS 21 = some ⟨21, [79, 112, 84, 121, 112, 101, 73, 110, 116], false, true, [110, 110], [], 0, 7⟩ := by decide +kernel
   rw [e]
   exact ⟨rfl, hst.pure⟩
 refine SR <| CN <| Op1.eql rfl rfl <| AB rfl <| NL <| run_cond_dec rfl (fun g13 => ?_) (fun g13 => ?_)
 · skip
   refine SR <| MH rfl <| CN <| Op1.call8 (v1 := .int .u16 _) (v2 := str _) (v3 := .bool _) (v4 := .bool _) (v5 := str _) (v6 := str _) (v7 := .int .i64 _) (v8 := .int .u8 _) ent47 rfl rfl rfl rfl rfl rfl rfl rfl rfl <| Ret.det (R5ref_form _ _ _ _ _ _ _ _ _) hst fun w hst => CN (SO (v := .agg #[.int .u16 _, str _, .bool _, .bool _, str _, str _, .int .i64 _, .int .u8 _]) hst ty74 rfl rfl (.here) fun w hst => ?_)
   refine AB rfl <| NL <| run_ret2 Try.func35 rfl (RV.cellA (vs := [.int .u16 _, str _, .bool _, .bool _, str _, str _, .int .i64 _, .int .u8 _]) rfl ty74 rfl rfl (cells_of_obj (n := 8) (hst.objL (.head _)) _ rfl)) (TP (v := .bool _) rfl) ?_
   subst g13
   have e : refS 23 = some ⟨23, [79, 112, 84, 121, 112, 101, 86, 101, 99, 116, 111, 114], false, true, [105, 110], [], 0, 7⟩ := by decide +kernel
   rw [e]
   exact ⟨rfl, hst.pure⟩
 refine SR <| CN <| Op1.eql rfl rfl <| AB rfl <| NL <| run_cond_dec rfl (fun g14 => ?_) (fun g14 => ?_)
 · skip
   refine SR <| MH rfl <| CN <| Op1.call8 (v1 := .int .u16 _) (v2 := str _) (v3 := .bool _) (v4 := .bool _) (v5 := str _) (v6 := str _) (v7 := .int .i64 _) (v8 := .int .u8 _) ent47 rfl rfl rfl rfl rfl rfl rfl rfl rfl <| Ret.det (R5ref_form _ _ _ _ _ _ _ _ _) hst fun w hst => CN (SO (v := .agg #[.int .u16 _, str _, .bool _, .bool _, str _, str _, .int .i64 _, .int .u8 _]) hst ty74 rfl rfl (.here) fun w hst => ?_)
   refine AB rfl <| NL <| run_ret2 Try.func35 rfl (RV.cellA (vs := [.int .u16 _, str _, .bool _, .bool _, str _, str _, .int .i64 _, .int .u8 _]) rfl ty74 rfl rfl (cells_of_obj (n := 8) (hst.objL (.head _)) _ rfl)) (TP (v := .bool _) rfl) ?_
   subst g14
   have e : refS 28 = some ⟨28, [79, 112, 84, 121, 112, 101, 65, 114, 114, 97, 121], false, true, [105, 105], [], 0, 7⟩ := by decide +kernel
   rw [e]
   exact ⟨rfl, hst.pure⟩
 refine SR <| CN <| Op1.eql rfl rfl <| AB rfl <| NL <| run_cond_dec rfl (fun g15 => ?_) (fun g15 => ?_)
 · skip
   refine SR <| MH rfl <| CN <| Op1.call8 (v1 := .int .u16 _) (v2 := str _) (v3 := .bool _) (v4 := .bool _) (v5 := str _) (v6 := str _) (v7 := .int .i64 _) (v8 := .int .u8 _) ent47 rfl rfl rfl rfl rfl rfl rfl rfl rfl <| Ret.det (R5ref_form _ _ _ _ _ _ _ _ _) hst fun w hst => CN (SO (v := .agg #[.int .u16 _, str _, .bool _, .bool _, str _, str _, .int .i64 _, .int .u8 _]) hst ty74 rfl rfl (.here) fun w hst => ?_)
   refine AB rfl <| NL <| run_ret2 Try.func35 rfl (RV.cellA (vs := [.int .u16 _, str _, .bool _, .bool _, str _, str _, .int .i64 _, .int .u8 _]) rfl ty74 rfl rfl (cells_of_obj (n := 8) (hst.objL (.head _)) _ rfl)) (TP (v := .bool _) rfl) ?_
   subst g15
   have e : refS 30 = some ⟨30, [79, 112, 84, 121, 112, 101, 83, 116, 114, 117, 99, 116], false, true, [], [105], 0, 7⟩ := by decide +kernel
   rw [e]
   exact ⟨rfl, hst.pure⟩
 refine SR <| CN <| Op1.eql rfl rfl <| AB rfl <| NL <| run_cond_dec rfl (fun g16 => ?_) (fun g16 => ?_)
 · skip
   refine SR <| MH rfl <| CN <| Op1.call8 (v1 := .int .u16 _) (v2 := str _) (v3 := .bool _) (v4 := .bool _) (v5 := str _) (v6 := str _) (v7 := .int .i64 _) (v8 := .int .u8 _) ent47 rfl rfl rfl rfl rfl rfl rfl rfl rfl <| Ret.det (R5ref_form _ _ _ _ _ _ _ _ _) hst fun w hst => CN (SO (v := .agg #[.int .u16 _, str _, .bool _, .bool _, str _, str _, .int .i64 _, .int .u8 _]) hst ty74 rfl rfl (.here) fun w hst => ?_)
   refine AB rfl <| NL <| run_ret2 Try.func35 rfl (RV.cellA (vs := [.int .u16 _, str _, .bool _, .bool _, str _, str _, .int .i64 _, .int .u8 _]) rfl ty74 rfl rfl (cells_of_obj (n := 8) (hst.objL (.head _)) _ rfl)) (TP (v := .bool _) rfl) ?_
   subst g16
   have e : refS 32 = some ⟨32, [79, 112, 84, 121, 112, 101, 80, 111, 105, 110, 116, 101, 114], false, true, [99, 105], [], 0, 7⟩ := by decide +kernel
   rw [e]
   exact ⟨rfl, hst.pure⟩
 refine SR <| CN <| Op1.eql rfl rfl <| AB rfl <| NL <| run_cond_dec rfl (fun g17 => ?_) (fun g17 => ?_)
 · skip
   refine SR <| MH rfl <| CN <| Op1.call8 (v1 := .int .u16 _) (v2 := str _) (v3 := .bool _) (v4 := .bool _) (v5 := str _) (v6 := str _) (v7 := .int .i64 _) (v8 := .int .u8 _) ent47 rfl rfl rfl rfl rfl rfl rfl rfl rfl <| Ret.det (R5ref_form _ _ _ _ _ _ _ _ _) hst fun w hst => CN (SO (v := .agg #[.int .u16 _, str _, .bool _, .bool _, str _, str _, .int .i64 _, .int .u8 _]) hst ty74 rfl rfl (.here) fun w hst => ?_)
   refine AB rfl <| NL <| run_ret2 Try.func35 rfl (RV.cellA (vs := [.int .u16 _, str _, .bool _, .bool _, str _, str _, .int .i64 _, .int .u8 _]) rfl ty74 rfl rfl (cells_of_obj (n := 8) (hst.objL (.head _)) _ rfl)) (TP (v := .bool _) rfl) ?_
   subst g17
   have e : refS 33 = some ⟨33, [79, 112, 84, 121, 112, 101, 70, 117, 110, 99, 116, 105, 111, 110], false, true, [105], [105], 0, 7⟩ := by decide +kernel
   rw [e]
   exact ⟨rfl, hst.pure⟩
 refine SR <| CN <| Op1.eql rfl rfl <| AB rfl <| NL <| Run.forget [(0, .int .u16 _), (2, .pointer (some ⟨_, _, none⟩)), (4, .int .u16 _), (73, .bool _)] ⟨rfl, rfl, rfl, rfl, trivial⟩ fun f => run_cond_dec rfl (fun g18 => ?_) (fun g18 => ?_)
 · skip
   refine SR <| MH rfl <| CN <| Op1.call8 (v1 := .int .u16 _) (v2 := str _) (v3 := .bool _) (v4 := .bool _) (v5 := str _) (v6 := str _) (v7 := .int .i64 _) (v8 := .int .u8 _) ent47 rfl rfl rfl rfl rfl rfl rfl rfl rfl <| Ret.det (R5ref_form _ _ _ _ _ _ _ _ _) hst fun w hst => CN (SO (v := .agg #[.int .u16 _, str _, .bool _, .bool _, str _, str _, .int .i64 _, .int .u8 _]) hst ty74 rfl rfl (.here) fun w hst => ?_)
   refine AB rfl <| NL <| run_ret2 Try.func35 rfl (RV.cellA (vs := [.int .u16 _, str _, .bool _, .bool _, str _, str _, .int .i64 _, .int .u8 _]) rfl ty74 rfl rfl (cells_of_obj (n := 8) (hst.objL (.head _)) _ rfl)) (TP (v := .bool _) rfl) ?_
   subst g18
   have e : refS 41 = some ⟨41, [79, 112, 67, 111, 110, 115, 116, 97, 110, 116, 84, 114, 117, 101], true, true, [], [], 0, 7⟩ := by decide +kernel
   rw [e]
   exact ⟨rfl, hst.pure⟩
 refine SR <| CN <| Op1.eql rfl rfl <| AB rfl <| NL <| run_cond_dec rfl (fun g19 => ?_) (fun g19 => ?_)
 · skip
   refine SR <| MH rfl <| CN <| Op1.call8 (v1 := .int .u16 _) (v2 := str _) (v3 := .bool _) (v4 := .bool _) (v5 := str _) (v6 := str _) (v7 := .int .i64 _) (v8 := .int .u8 _) ent47 rfl rfl rfl rfl rfl rfl rfl rfl rfl <| Ret.det (R5ref_form _ _ _ _ _ _ _ _ _) hst fun w hst => CN (SO (v := .agg #[.int .u16 _, str _, .bool _, .bool _, str _, str _, .int .i64 _, .int .u8 _]) hst ty74 rfl rfl (.here) fun w hst => ?_)
   refine AB rfl <| NL <| run_ret2 Try.func35 rfl (RV.cellA (vs := [.int .u16 _, str _, .bool _, .bool _, str _, str _, .int .i64 _, .int .u8 _]) rfl ty74 rfl rfl (cells_of_obj (n := 8) (hst.objL (.head _)) _ rfl)) (TP (v := .bool _) rfl) ?_
   subst g19
   have e : refS 42 = some ⟨42, [79, 112, 67, 111, 110, 115, 116, 97, 110, 116, 70, 97, 108, 115, 101], true, true, [], [], 0, 7⟩ := by decide +kernel
   rw [e]
   exact ⟨rfl, hst.pure⟩
 refine SR <| CN <| Op1.eql rfl rfl <| AB rfl <| NL <| run_cond_dec rfl (fun g20 => ?_) (fun g20 => ?_)
 · skip
   refine SR <| MH rfl <| CN <| Op1.call8 (v1 := .int .u16 _) (v2 := str _) (v3 := .bool _) (v4 := .bool _) (v5 := str _) (v6 := str _) (v7 := .int .i64 _) (v8 := .int .u8 _) ent47 rfl rfl rfl rfl rfl rfl rfl rfl rfl <| Ret.det (R5ref_form _ _ _ _ _ _ _ _ _) hst fun w hst => CN (SO (v := .agg #[.int .u16 _, str _, .bool _, .bool _, str _, str _, .int .i64 _, .int .u8 _]) hst ty74 rfl rfl (.here) fun w hst => ?_)
   refine AB rfl <| NL <| run_ret2 Try.func35 rfl (RV.cellA (vs := [.int .u16 _, str _, .bool _, .bool _, str _, str _, .int .i64 _, .int .u8 _]) rfl ty74 rfl rfl (cells_of_obj (n := 8) (hst.objL (.head _)) _ rfl)) (TP (v := .bool _) rfl) ?_
   subst g20
   have e : refS 43 = some ⟨43, [79, 112, 67, 111, 110, 115, 116, 97, 110, 116], true, true, [110], [], 0, 7⟩ := by decide +kernel
   rw [e]
   exact ⟨rfl, hst.pure⟩
 refine SR <| CN <| Op1.eql rfl rfl <| AB rfl <| NL <| run_cond_dec rfl (fun g21 => ?_) (fun g21 => ?_)
 · skip
   refine SR <| MH rfl <| CN <| Op1.call8 (v1 := .int .u16 _) (v2 := str _) (v3 := .bool _) (v4 := .bool _) (v5 := str _) (v6 := str _) (v7 := .int .i64 _) (v8 := .int .u8 _) ent47 rfl rfl rfl rfl rfl rfl rfl rfl rfl <| Ret.det (R5ref_form _ _ _ _ _ _ _ _ _) hst fun w hst => CN (SO (v := .agg #[.int .u16 _, str _, .bool _, .bool _, str _, str _, .int .i64 _, .int .u8 _]) hst ty74 rfl rfl (.here) fun w hst => ?_)
   refine AB rfl <| NL <| run_ret2 Try.func35 rfl (RV.cellA (vs := [.int .u16 _, str _, .bool _, .bool _, str _, str _, .int .i64 _, .int .u8 _]) rfl ty74 rfl rfl (cells_of_obj (n := 8) (hst.objL (.head _)) _ rfl)) (TP (v := .bool _) rfl) ?_
   subst g21
   have e : refS 44 = some ⟨44, [79, 112, 67, 111, 110, 115, 116, 97, 110, 116, 67, 111, 109, 112, 111, 115, 105, 116, 101], true, true, [], [105], 0, 7⟩ := by decide +kernel
   rw [e]
   exact ⟨rfl, hst.pure⟩
 refine SR <| CN <| Op1.eql rfl rfl <| AB rfl <| NL <| run_cond_dec rfl (fun g22 => ?_) (fun g22 => ?_)
 · skip
   refine SR <| MH rfl <| CN <| Op1.call8 (v1 := .int .u16 _) (v2 := str _) (v3 := .bool _) (v4 := .bool _) (v5 := str _) (v6 := str _) (v7 := .int .i64 _) (v8 := .int .u8 _) ent47 rfl rfl rfl rfl rfl rfl rfl rfl rfl <| Ret.det (R5ref_form _ _ _ _ _ _ _ _ _) hst fun w hst => CN (SO (v := .agg #[.int .u16 _, str _, .bool _, .bool _, str _, str _, .int .i64 _, .int .u8 _]) hst ty74 rfl rfl (.here) fun w hst => ?_)
   refine AB rfl <| NL <| run_ret2 Try.func35 rfl (RV.cellA (vs := [.int .u16 _, str _, .bool _, .bool _, str _, str _, .int .i64 _, .int .u8 _]) rfl ty74 rfl rfl (cells_of_obj (n := 8) (hst.objL (.head _)) _ rfl)) (TP (v := .bool _) rfl) ?_
   subst g22
   have e : refS 46 = some ⟨46, [79, 112, 67, 111, 110, 115, 116, 97, 110, 116, 78, 117, 108, 108], true, true, [], [], 0, 7⟩ := by decide +kernel
   rw [e]
   exact ⟨rfl, hst.pure⟩
 refine SR <| CN <| Op1.eql rfl rfl <| AB rfl <| NL <| run_cond_dec rfl (fun g23 => ?_) (fun g23 => ?_)
 · skip
   refine SR <| MH rfl <| CN <| Op1.call8 (v1 := .int .u16 _) (v2 := str _) (v3 := .bool _) (v4 := .bool _) (v5 := str _) (v6 := str _) (v7 := .int .i64 _) (v8 := .int .u8 _) ent47 rfl rfl rfl rfl rfl rfl rfl rfl rfl <| Ret.det (R5ref_form _ _ _ _ _ _ _ _ _) hst fun w hst => CN (SO (v := .agg #[.int .u16 _, str _, .bool _, .bool _, str _, str _, .int .i64 _, .int .u8 _]) hst ty74 rfl rfl (.here) fun w hst => ?_)
   refine AB rfl <| NL <| run_ret2 Try.func35 rfl (RV.cellA (vs := [.int .u16 _, str _, .bool _, .bool _, str _, str _, .int .i64 _, .int .u8 _]) rfl ty74 rfl rfl (cells_of_obj (n := 8) (hst.objL (.head _)) _ rfl)) (TP (v := .bool _) rfl) ?_
   subst g23
   have e : refS 54 = some ⟨54, [79, 112, 70, 117, 110, 99, 116, 105, 111, 110], true, true, [102, 105], [], 0, 8⟩ := by decide +kernel
   rw [e]
   exact ⟨rfl, hst.pure⟩
 refine SR <| CN <| Op1.eql rfl rfl <| AB rfl <| NL <| run_cond_dec rfl (fun g24 => ?_) (fun g24 => ?_)
 · skip
   refine SR <| MH rfl <| CN <| Op1.call8 (v1 := .int .u16 _) (v2 := str _) (v3 := .bool _) (v4 := .bool _) (v5 := str _) (v6 := str _) (v7 := .int .i64 _) (v8 := .int .u8 _) ent47 rfl rfl rfl rfl rfl rfl rfl rfl rfl <| Ret.det (R5ref_form _ _ _ _ _ _ _ _ _) hst fun w hst => CN (SO (v := .agg #[.int .u16 _, str _, .bool _, .bool _, str _, str _, .int .i64 _, .int .u8 _]) hst ty74 rfl rfl (.here) fun w hst => ?_)
   refine AB rfl <| NL <| run_ret2 Try.func35 rfl (RV.cellA (vs := [.int .u16 _, str _, .bool _, .bool _, str _, str _, .int .i64 _, .int .u8 _]) rfl ty74 rfl rfl (cells_of_obj (n := 8) (hst.objL (.head _)) _ rfl)) (TP (v := .bool _) rfl) ?_
   subst g24
   have e : refS 55 = some ⟨55, [79, 112, 70, 117, 110, 99, 116, 105, 111, 110, 80, 97, 114, 97, 109, 101, 116, 101, 114], true, true, [], [], 0, 8⟩ := by decide +kernel
   rw [e]
   exact ⟨rfl, hst.pure⟩
 refine SR <| CN <| Op1.eql rfl rfl <| AB rfl <| NL <| run_cond_dec rfl (fun g25 => ?_) (fun g25 => ?_)
 · skip
   refine SR <| MH rfl <| CN <| Op1.call8 (v1 := .int .u16 _) (v2 := str _) (v3 := .bool _) (v4 := .bool _) (v5 := str _) (v6 := str _) (v7 := .int .i64 _) (v8 := .int .u8 _) ent47 rfl rfl rfl rfl rfl rfl rfl rfl rfl <| Ret.det (R5ref_form _ _ _ _ _ _ _ _ _) hst fun w hst => CN (SO (v := .agg #[.int .u16 _, str _, .bool _, .bool _, str _, str _, .int .i64 _, .int .u8 _]) hst ty74 rfl rfl (.here) fun w hst => ?_)
   refine AB rfl <| NL <| run_ret2 Try.func35 rfl (RV.cellA (vs := [.int .u16 _, str _, .bool _, .bool _, str _, str _, .int .i64 _, .int .u8 _]) rfl ty74 rfl rfl (cells_of_obj (n := 8) (hst.objL (.head _)) _ rfl)) (TP (v := .bool _) rfl) ?_
   subst g25
   have e : refS 56 = some ⟨56, [79, 112, 70, 117, 110, 99, 116, 105, 111, 110, 69, 110, 100], false, false, [], [], 0, 8⟩ := by decide +kernel
   rw [e]
   exact ⟨rfl, hst.pure⟩
 refine SR <| CN <| Op1.eql rfl rfl <| AB rfl <| NL <| run_cond_dec rfl (fun g26 => ?_) (fun g26 => ?_)
 · skip
   refine SR <| MH rfl <| CN <| Op1.call8 (v1 := .int .u16 _) (v2 := str _) (v3 := .bool _) (v4 := .bool _) (v5 := str _) (v6 := str _) (v7 := .int .i64 _) (v8 := .int .u8 _) ent47 rfl rfl rfl rfl rfl rfl rfl rfl rfl <| Ret.det (R5ref_form _ _ _ _ _ _ _ _ _) hst fun w hst => CN (SO (v := .agg #[.int .u16 _, str _, .bool _, .bool _, str _, str _, .int .i64 _, .int .u8 _]) hst ty74 rfl rfl (.here) fun w hst => ?_)
   refine AB rfl <| NL <| run_ret2 Try.func35 rfl (RV.cellA (vs := [.int .u16 _, str _, .bool _, .bool _, str _, str _, .int .i64 _, .int .u8 _]) rfl ty74 rfl rfl (cells_of_obj (n := 8) (hst.objL (.head _)) _ rfl)) (TP (v := .bool _) rfl) ?_
   subst g26
   have e : refS 57 = some ⟨57, [79, 112, 70, 117, 110, 99, 116, 105, 111, 110, 67, 97, 108, 108], true, true, [105], [105], 0, 8⟩ := by decide +kernel
   rw [e]
   exact ⟨rfl, hst.pure⟩
 refine SR <| CN <| Op1.eql rfl rfl <| AB rfl <| NL <| run_cond_dec rfl (fun g27 => ?_) (fun g27 => ?_)
 · skip
   refine SR <| MH rfl <| CN <| Op1.call8 (v1 := .int .u16 _) (v2 := str _) (v3 := .bool _) (v4 := .bool _) (v5 := str _) (v6 := str _) (v7 := .int .i64 _) (v8 := .int .u8 _) ent47 rfl rfl rfl rfl rfl rfl rfl rfl rfl <| Ret.det (R5ref_form _ _ _ _ _ _ _ _ _) hst fun w hst => CN (SO (v := .agg #[.int .u16 _, str _, .bool _, .bool _, str _, str _, .int .i64 _, .int .u8 _]) hst ty74 rfl rfl (.here) fun w hst => ?_)
   refine AB rfl <| NL <| run_ret2 Try.func35 rfl (RV.cellA (vs := [.int .u16 _, str _, .bool _, .bool _, str _, str _, .int .i64 _, .int .u8 _]) rfl ty74 rfl rfl (cells_of_obj (n := 8) (hst.objL (.head _)) _ rfl)) (TP (v := .bool _) rfl) ?_
   subst g27
   have e : refS 59 = some ⟨59, [79, 112, 86, 97, 114, 105, 97, 98, 108, 101], true, true, [99], [105], 1, 7⟩ := by decide +kernel
   rw [e]
   exact ⟨rfl, hst.pure⟩
 refine SR <| CN <| Op1.eql rfl rfl <| AB rfl <| NL <| Run.forget [(0, .int .u16 _), (2, .pointer (some ⟨_, _, none⟩)), (4, .int .u16 _), (113, .bool _)] ⟨rfl, rfl, rfl, rfl, trivial⟩ fun f => run_cond_dec rfl (fun g28 => ?_) (fun g28 => ?_)
 · skip
   refine SR <| MH rfl <| CN <| Op1.call8 (v1 := .int .u16 _) (v2 := str _) (v3 := .bool _) (v4 := .bool _) (v5 := str _) (v6 := str _) (v7 := .int .i64 _) (v8 := .int .u8 _) ent47 rfl rfl rfl rfl rfl rfl rfl rfl rfl <| Ret.det (R5ref_form _ _ _ _ _ _ _ _ _) hst fun w hst => CN (SO (v := .agg #[.int .u16 _, str _, .bool _, .bool _, str _, str _, .int .i64 _, .int .u8 _]) hst ty74 rfl rfl (.here) fun w hst => ?_)
   refine AB rfl <| NL <| run_ret2 Try.func35 rfl (RV.cellA (vs := [.int .u16 _, str _, .bool _, .bool _, str _, str _, .int .i64 _, .int .u8 _]) rfl ty74 rfl rfl (cells_of_obj (n := 8) (hst.objL (.head _)) _ rfl)) (TP (v := .bool _) rfl) ?_
   subst g28
   have e : refS 61 = some ⟨61, [79, 112, 76, 111, 97, 100], true, true, [105], [], 0, 8⟩ := by decide +kernel
   rw [e]
   exact ⟨rfl, hst.pure⟩
 refine SR <| CN <| Op1.eql rfl rfl <| AB rfl <| NL <| run_cond_dec rfl (fun g29 => ?_) (fun g29 => ?_)
 · skip
   refine SR <| MH rfl <| CN <| Op1.call8 (v1 := .int .u16 _) (v2 := str _) (v3 := .bool _) (v4 := .bool _) (v5 := str _) (v6 := str _) (v7 := .int .i64 _) (v8 := .int .u8 _) ent47 rfl rfl rfl rfl rfl rfl rfl rfl rfl <| Ret.det (R5ref_form _ _ _ _ _ _ _ _ _) hst fun w hst => CN (SO (v := .agg #[.int .u16 _, str _, .bool _, .bool _, str _, str _, .int .i64 _, .int .u8 _]) hst ty74 rfl rfl (.here) fun w hst => ?_)
   refine AB rfl <| NL <| run_ret2 Try.func35 rfl (RV.cellA (vs := [.int .u16 _, str _, .bool _, .bool _, str _, str _, .int .i64 _, .int .u8 _]) rfl ty74 rfl rfl (cells_of_obj (n := 8) (hst.objL (.head _)) _ rfl)) (TP (v := .bool _) rfl) ?_
   subst g29
   have e : refS 62 = some ⟨62, [79, 112, 83, 116, 111, 114, 101], false, false, [105, 105], [], 0, 8⟩ := by decide +kernel
   rw [e]
   exact ⟨rfl, hst.pure⟩
 refine SR <| CN <| Op1.eql rfl rfl <| AB rfl <| NL <| run_cond_dec rfl (fun g30 => ?_) (fun g30 => ?_)
 · skip
   refine SR <| MH rfl <| CN <| Op1.call8 (v1 := .int .u16 _) (v2 := str _) (v3 := .bool _) (v4 := .bool _) (v5 := str _) (v6 := str _) (v7 := .int .i64 _) (v8 := .int .u8 _) ent47 rfl rfl rfl rfl rfl rfl rfl rfl rfl <| Ret.det (R5ref_form _ _ _ _ _ _ _ _ _) hst fun w hst => CN (SO (v := .agg #[.int .u16 _, str _, .bool _, .bool _, str _, str _, .int .i64 _, .int .u8 _]) hst ty74 rfl rfl (.here) fun w hst => ?_)
   refine AB rfl <| NL <| run_ret2 Try.func35 rfl (RV.cellA (vs := [.int .u16 _, str _, .bool _, .bool _, str _, str _, .int .i64 _, .int .u8 _]) rfl ty74 rfl rfl (cells_of_obj (n := 8) (hst.objL (.head _)) _ rfl)) (TP (v := .bool _) rfl) ?_
   subst g30
   have e : refS 65 = some ⟨65, [79, 112, 65, 99, 99, 101, 115, 115, 67, 104, 97, 105, 110], true, true, [105], [105], 0, 8⟩ := by decide +kernel
   rw [e]
   exact ⟨rfl, hst.pure⟩
 refine SR <| CN <| Op1.eql rfl rfl <| AB rfl <| NL <| run_cond_dec rfl (fun g31 => ?_) (fun g31 => ?_)
 · skip
   refine SR <| MH rfl <| CN <| Op1.call8 (v1 := .int .u16 _) (v2 := str _) (v3 := .bool _) (v4 := .bool _) (v5 := str _) (v6 := str _) (v7 := .int .i64 _) (v8 := .int .u8 _) ent47 rfl rfl rfl rfl rfl rfl rfl rfl rfl <| Ret.det (R5ref_form _ _ _ _ _ _ _ _ _) hst fun w hst => CN (SO (v := .agg #[.int .u16 _, str _, .bool _, .bool _, str _, str _, .int .i64 _, .int .u8 _]) hst ty74 rfl rfl (.here) fun w hst => ?_)
   refine AB rfl <| NL <| run_ret2 Try.func35 rfl (RV.cellA (vs := [.int .u16 _, str _, .bool _, .bool _, str _, str _, .int .i64 _, .int .u8 _]) rfl ty74 rfl rfl (cells_of_obj (n := 8) (hst.objL (.head _)) _ rfl)) (TP (v := .bool _) rfl) ?_
   subst g31
   have e : refS 71 = some ⟨71, [79, 112, 68, 101, 99, 111, 114, 97, 116, 101], false, false, [105, 100], [110], 0, 6⟩ := by decide +kernel
   rw [e]
   exact ⟨rfl, hst.pure⟩
 refine SR <| CN <| Op1.eql rfl rfl <| AB rfl <| NL <| run_cond_dec rfl (fun g32 => ?_) (fun g32 => ?_)
 · skip
   refine SR <| MH rfl <| CN <| Op1.call8 (v1 := .int .u16 _) (v2 := str _) (v3 := .bool _) (v4 := .bool _) (v5 := str _) (v6 := str _) (v7 := .int .i64 _) (v8 := .int .u8 _) ent47 rfl rfl rfl rfl rfl rfl rfl rfl rfl <| Ret.det (R5ref_form _ _ _ _ _ _ _ _ _) hst fun w hst => CN (SO (v := .agg #[.int .u16 _, str _, .bool _, .bool _, str _, str _, .int .i64 _, .int .u8 _]) hst ty74 rfl rfl (.here) fun w hst => ?_)
   refine AB rfl <| NL <| run_ret2 Try.func35 rfl (RV.cellA (vs := [.int .u16 _, str _, .bool _, .bool _, str _, str _, .int .i64 _, .int .u8 _]) rfl ty74 rfl rfl (cells_of_obj (n := 8) (hst.objL (.head _)) _ rfl)) (TP (v := .bool _) rfl) ?_
   subst g32
   have e : refS 77 = some ⟨77, [79, 112, 86, 101, 99, 116, 111, 114, 69, 120, 116, 114, 97, 99, 116, 68, 121, 110, 97, 109, 105, 99], true, true, [105, 105], [], 0, 8⟩ := by decide +kernel
   rw [e]
   exact ⟨rfl, hst.pure⟩
 refine SR <| CN <| Op1.eql rfl rfl <| AB rfl <| NL <| run_cond_dec rfl (fun g33 => ?_) (fun g33 => ?_)
 · skip
   refine SR <| MH rfl <| CN <| Op1.call8 (v1 := .int .u16 _) (v2 := str _) (v3 := .bool _) (v4 := .bool _) (v5 := str _) (v6 := str _) (v7 := .int .i64 _) (v8 := .int .u8 _) ent47 rfl rfl rfl rfl rfl rfl rfl rfl rfl <| Ret.det (R5ref_form _ _ _ _ _ _ _ _ _) hst fun w hst => CN (SO (v := .agg #[.int .u16 _, str _, .bool _, .bool _, str _, str _, .int .i64 _, .int .u8 _]) hst ty74 rfl rfl (.here) fun w hst => ?_)
   refine AB rfl <| NL <| run_ret2 Try.func35 rfl (RV.cellA (vs := [.int .u16 _, str _, .bool _, .bool _, str _, str _, .int .i64 _, .int .u8 _]) rfl ty74 rfl rfl (cells_of_obj (n := 8) (hst.objL (.head _)) _ rfl)) (TP (v := .bool _) rfl) ?_
   subst g33
   have e : refS 78 = some ⟨78, [79, 112, 86, 101, 99, 116, 111, 114, 73, 110, 115, 101, 114, 116, 68, 121, 110, 97, 109, 105, 99], true, true, [105, 105, 105], [], 0, 8⟩ := by decide +kernel
   rw [e]
   exact ⟨rfl, hst.pure⟩
 refine SR <| CN <| Op1.eql rfl rfl <| AB rfl <| NL <| run_cond_dec rfl (fun g34 => ?_) (fun g34 => ?_)
 · skip
   refine SR <| MH rfl <| CN <| Op1.call8 (v1 := .int .u16 _) (v2 := str _) (v3 := .bool _) (v4 := .bool _) (v5 := str _) (v6 := str _) (v7 := .int .i64 _) (v8 := .int .u8 _) ent47 rfl rfl rfl rfl rfl rfl rfl rfl rfl <| Ret.det (R5ref_form _ _ _ _ _ _ _ _ _) hst fun w hst => CN (SO (v := .agg #[.int .u16 _, str _, .bool _, .bool _, str _, str _, .int .i64 _, .int .u8 _]) hst ty74 rfl rfl (.here) fun w hst => ?_)
   refine AB rfl <| NL <| run_ret2 Try.func35 rfl (RV.cellA (vs := [.int .u16 _, str _, .bool _, .bool _, str _, str _, .int .i64 _, .int .u8 _]) rfl ty74 rfl rfl (cells_of_obj (n := 8) (hst.objL (.head _)) _ rfl)) (TP (v := .bool _) rfl) ?_
   subst g34
   have e : refS 79 = some ⟨79, [79, 112, 86, 101, 99, 116, 111, 114, 83, 104, 117, 102, 102, 108, 101], true, true, [105, 105], [110], 0, 8⟩ := by decide +kernel
   rw [e]
   exact ⟨rfl, hst.pure⟩
 refine SR <| CN <| Op1.eql rfl rfl <| AB rfl <| NL <| run_cond_dec rfl (fun g35 => ?_) (fun g35 => ?_)
 · skip
   refine SR <| MH rfl <| CN <| Op1.call8 (v1 := .int .u16 _) (v2 := str _) (v3 := .bool _) (v4 := .bool _) (v5 := str _) (v6 := str _) (v7 := .int .i64 _) (v8 := .int .u8 _) ent47 rfl rfl rfl rfl rfl rfl rfl rfl rfl <| Ret.det (R5ref_form _ _ _ _ _ _ _ _ _) hst fun w hst => CN (SO (v := .agg #[.int .u16 _, str _, .bool _, .bool _, str _, str _, .int .i64 _, .int .u8 _]) hst ty74 rfl rfl (.here) fun w hst => ?_)
   refine AB rfl <| NL <| run_ret2 Try.func35 rfl (RV.cellA (vs := [.int .u16 _, str _, .bool _, .bool _, str _, str _, .int .i64 _, .int .u8 _]) rfl ty74 rfl rfl (cells_of_obj (n := 8) (hst.objL (.head _)) _ rfl)) (TP (v := .bool _) rfl) ?_
   subst g35
   have e : refS 80 = some ⟨80, [79, 112, 67, 111, 109, 112, 111, 115, 105, 116, 101, 67, 111, 110, 115, 116, 114, 117, 99, 116], true, true, [], [105], 0, 8⟩ := by decide +kernel
   rw [e]
   exact ⟨rfl, hst.pure⟩
 refine SR <| CN <| Op1.eql rfl rfl <| AB rfl <| NL <| run_cond_dec rfl (fun g36 => ?_) (fun g36 => ?_)
 · skip
   refine SR <| MH rfl <| CN <| Op1.call8 (v1 := .int .u16 _) (v2 := str _) (v3 := .bool _) (v4 := .bool _) (v5 := str _) (v6 := str _) (v7 := .int .i64 _) (v8 := .int .u8 _) ent47 rfl rfl rfl rfl rfl rfl rfl rfl rfl <| Ret.det (R5ref_form _ _ _ _ _ _ _ _ _) hst fun w hst => CN (SO (v := .agg #[.int .u16 _, str _, .bool _, .bool _, str _, str _, .int .i64 _, .int .u8 _]) hst ty74 rfl rfl (.here) fun w hst => ?_)
   refine AB rfl <| NL <| run_ret2 Try.func35 rfl (RV.cellA (vs := [.int .u16 _, str _, .bool _, .bool _, str _, str _, .int .i64 _, .int .u8 _]) rfl ty74 rfl rfl (cells_of_obj (n := 8) (hst.objL (.head _)) _ rfl)) (TP (v := .bool _) rfl) ?_
   subst g36
   have e : refS 81 = some ⟨81, [79, 112, 67, 111, 109, 112, 111, 115, 105, 116, 101, 69, 120, 116, 114, 97, 99, 116], true, true, [105], [110], 0, 8⟩ := by decide +kernel
   rw [e]
   exact ⟨rfl, hst.pure⟩
 refine SR <| CN <| Op1.eql rfl rfl <| AB rfl <| NL <| run_cond_dec rfl (fun g37 => ?_) (fun g37 => ?_)
 · skip
   refine SR <| MH rfl <| CN <| Op1.call8 (v1 := .int .u16 _) (v2 := str _) (v3 := .bool _) (v4 := .bool _) (v5 := str _) (v6 := str _) (v7 := .int .i64 _) (v8 := .int .u8 _) ent47 rfl rfl rfl rfl rfl rfl rfl rfl rfl <| Ret.det (R5ref_form _ _ _ _ _ _ _ _ _) hst fun w hst => CN (SO (v := .agg #[.int .u16 _, str _, .bool _, .bool _, str _, str _, .int .i64 _, .int .u8 _]) hst ty74 rfl rfl (.here) fun w hst => ?_)
   refine AB rfl <| NL <| run_ret2 Try.func35 rfl (RV.cellA (vs := [.int .u16 _, str _, .bool _, .bool _, str _, str _, .int .i64 _, .int .u8 _]) rfl ty74 rfl rfl (cells_of_obj (n := 8) (hst.objL (.head _)) _ rfl)) (TP (v := .bool _) rfl) ?_
   subst g37
   have e : refS 82 = some ⟨82, [79, 112, 67, 111, 109, 112, 111, 115, 105, 116, 101, 73, 110, 115, 101, 114, 116], true, true, [105, 105], [110], 0, 8⟩ := by decide +kernel
   rw [e]
   exact ⟨rfl, hst.pure⟩
 refine SR <| CN <| Op1.eql rfl rfl <| AB rfl <| NL <| Run.forget [(0, .int .u16 _), (2, .pointer (some ⟨_, _, none⟩)), (4, .int .u16 _), (153, .bool _)] ⟨rfl, rfl, rfl, rfl, trivial⟩ fun f => run_cond_dec rfl (fun g38 => ?_) (fun g38 => ?_)
 · skip
   refine SR <| MH rfl <| CN <| Op1.call8 (v1 := .int .u16 _) (v2 := str _) (v3 := .bool _) (v4 := .bool _) (v5 := str _) (v6 := str _) (v7 := .int .i64 _) (v8 := .int .u8 _) ent47 rfl rfl rfl rfl rfl rfl rfl rfl rfl <| Ret.det (R5ref_form _ _ _ _ _ _ _ _ _) hst fun w hst => CN (SO (v := .agg #[.int .u16 _, str _, .bool _, .bool _, str _, str _, .int .i64 _, .int .u8 _]) hst ty74 rfl rfl (.here) fun w hst => ?_)
   refine AB rfl <| NL <| run_ret2 Try.func35 rfl (RV.cellA (vs := [.int .u16 _, str _, .bool _, .bool _, str _, str _, .int .i64 _, .int .u8 _]) rfl ty74 rfl rfl (cells_of_obj (n := 8) (hst.objL (.head _)) _ rfl)) (TP (v := .bool _) rfl) ?_
   subst g38
   have e : refS 83 = some ⟨83, [79, 112, 67, 111, 112, 121, 79, 98, 106, 101, 99, 116], true, true, [105], [], 0, 8⟩ := by decide +kernel
   rw [e]
   exact ⟨rfl, hst.pure⟩
 refine SR <| CN <| Op1.eql rfl rfl <| AB rfl <| NL <| run_cond_dec rfl (fun g39 => ?_) (fun g39 => ?_)
 · skip
   refine SR <| MH rfl <| CN <| Op1.call8 (v1 := .int .u16 _) (v2 := str _) (v3 := .bool _) (v4 := .bool _) (v5 := str _) (v6 := str _) (v7 := .int .i64 _) (v8 := .int .u8 _) ent47 rfl rfl rfl rfl rfl rfl rfl rfl rfl <| Ret.det (R5ref_form _ _ _ _ _ _ _ _ _) hst fun w hst => CN (SO (v := .agg #[.int .u16 _, str _, .bool _, .bool _, str _, str _, .int .i64 _, .int .u8 _]) hst ty74 rfl rfl (.here) fun w hst => ?_)
   refine AB rfl <| NL <| run_ret2 Try.func35 rfl (RV.cellA (vs := [.int .u16 _, str _, .bool _, .bool _, str _, str _, .int .i64 _, .int .u8 _]) rfl ty74 rfl rfl (cells_of_obj (n := 8) (hst.objL (.head _)) _ rfl)) (TP (v := .bool _) rfl) ?_
   subst g39
   have e : refS 124 = some ⟨124, [79, 112, 66, 105, 116, 99, 97, 115, 116], true, true, [105], [], 0, 8⟩ := by decide +kernel
   rw [e]
   exact ⟨rfl, hst.pure⟩
 refine SR <| CN <| Op1.eql rfl rfl <| AB rfl <| NL <| run_cond_dec rfl (fun g40 => ?_) (fun g40 => ?_)
 · skip
   refine SR <| MH rfl <| CN <| Op1.call8 (v1 := .int .u16 _) (v2 := str _) (v3 := .bool _) (v4 := .bool _) (v5 := str _) (v6 := str _) (v7 := .int .i64 _) (v8 := .int .u8 _) ent47 rfl rfl rfl rfl rfl rfl rfl rfl rfl <| Ret.det (R5ref_form _ _ _ _ _ _ _ _ _) hst fun w hst => CN (SO (v := .agg #[.int .u16 _, str _, .bool _, .bool _, str _, str _, .int .i64 _, .int .u8 _]) hst ty74 rfl rfl (.here) fun w hst => ?_)
   refine AB rfl <| NL <| run_ret2 Try.func35 rfl (RV.cellA (vs := [.int .u16 _, str _, .bool _, .bool _, str _, str _, .int .i64 _, .int .u8 _]) rfl ty74 rfl rfl (cells_of_obj (n := 8) (hst.objL (.head _)) _ rfl)) (TP (v := .bool _) rfl) ?_
   subst g40
   have e : refS 126 = some ⟨126, [79, 112, 83, 78, 101, 103, 97, 116, 101], true, true, [105], [], 0, 8⟩ := by decide +kernel
   rw [e]
   exact ⟨rfl, hst.pure⟩
 refine SR <| CN <| Op1.eql rfl rfl <| AB rfl <| NL <| run_cond_dec rfl (fun g41 => ?_) (fun g41 => ?_)
 · skip
   refine SR <| MH rfl <| CN <| Op1.call8 (v1 := .int .u16 _) (v2 := str _) (v3 := .bool _) (v4 := .bool _) (v5 := str _) (v6 := str _) (v7 := .int .i64 _) (v8 := .int .u8 _) ent47 rfl rfl rfl rfl rfl rfl rfl rfl rfl <| Ret.det (R5ref_form _ _ _ _ _ _ _ _ _) hst fun w hst => CN (SO (v := .agg #[.int .u16 _, str _, .bool _, .bool _, str _, str _, .int .i64 _, .int .u8 _]) hst ty74 rfl rfl (.here) fun w hst => ?_)
   refine AB rfl <| NL <| run_ret2 Try.func35 rfl (RV.cellA (vs := [.int .u16 _, str _, .bool _, .bool _, str _, str _, .int .i64 _, .int .u8 _]) rfl ty74 rfl rfl (cells_of_obj (n := 8) (hst.objL (.head _)) _ rfl)) (TP (v := .bool _) rfl) ?_
   subst g41
   have e : refS 128 = some ⟨128, [79, 112, 73, 65, 100, 100], true, true, [105, 105], [], 0, 8⟩ := by decide +kernel
   rw [e]
   exact ⟨rfl, hst.pure⟩
 refine SR <| CN <| Op1.eql rfl rfl <| AB rfl <| NL <| run_cond_dec rfl (fun g42 => ?_) (fun g42 => ?_)
 · skip
   refine SR <| MH rfl <| CN <| Op1.call8 (v1 := .int .u16 _) (v2 := str _) (v3 := .bool _) (v4 := .bool _) (v5 := str _) (v6 := str _) (v7 := .int .i64 _) (v8 := .int .u8 _) ent47 rfl rfl rfl rfl rfl rfl rfl rfl rfl <| Ret.det (R5ref_form _ _ _ _ _ _ _ _ _) hst fun w hst => CN (SO (v := .agg #[.int .u16 _, str _, .bool _, .bool _, str _, str _, .int .i64 _, .int .u8 _]) hst ty74 rfl rfl (.here) fun w hst => ?_)
   refine AB rfl <| NL <| run_ret2 Try.func35 rfl (RV.cellA (vs := [.int .u16 _, str _, .bool _, .bool _, str _, str _, .int .i64 _, .int .u8 _]) rfl ty74 rfl rfl (cells_of_obj (n := 8) (hst.objL (.head _)) _ rfl)) (TP (v := .bool _) rfl) ?_
   subst g42
   have e : refS 130 = some ⟨130, [79, 112, 73, 83, 117, 98], true, true, [105, 105], [], 0, 8⟩ := by decide +kernel
   rw [e]
   exact ⟨rfl, hst.pure⟩
 refine SR <| CN <| Op1.eql rfl rfl <| AB rfl <| NL <| run_cond_dec rfl (fun g43 => ?_) (fun g43 => ?_)
 · skip
   refine SR <| MH rfl <| CN <| Op1.call8 (v1 := .int .u16 _) (v2 := str _) (v3 := .bool _) (v4 := .bool _) (v5 := str _) (v6 := str _) (v7 := .int .i64 _) (v8 := .int .u8 _) ent47 rfl rfl rfl rfl rfl rfl rfl rfl rfl <| Ret.det (R5ref_form _ _ _ _ _ _ _ _ _) hst fun w hst => CN (SO (v := .agg #[.int .u16 _, str _, .bool _, .bool _, str _, str _, .int .i64 _, .int .u8 _]) hst ty74 rfl rfl (.here) fun w hst => ?_)
   refine AB rfl <| NL <| run_ret2 Try.func35 rfl (RV.cellA (vs := [.int .u16 _, str _, .bool _, .bool _, str _, str _, .int .i64 _, .int .u8 _]) rfl ty74 rfl rfl (cells_of_obj (n := 8) (hst.objL (.head _)) _ rfl)) (TP (v := .bool _) rfl) ?_
   subst g43
   have e : refS 132 = some ⟨132, [79, 112, 73, 77, 117, 108], true, true, [105, 105], [], 0, 8⟩ := by decide +kernel
   rw [e]
   exact ⟨rfl, hst.pure⟩
 refine SR <| CN <| Op1.eql rfl rfl <| AB rfl <| NL <| run_cond_dec rfl (fun g44 => ?_) (fun g44 => ?_)
 · skip
   refine SR <| MH rfl <| CN <| Op1.call8 (v1 := .int .u16 _) (v2 := str _) (v3 := .bool _) (v4 := .bool _) (v5 := str _) (v6 := str _) (v7 := .int .i64 _) (v8 := .int .u8 _) ent47 rfl rfl rfl rfl rfl rfl rfl rfl rfl <| Ret.det (R5ref_form _ _ _ _ _ _ _ _ _) hst fun w hst => CN (SO (v := .agg #[.int .u16 _, str _, .bool _, .bool _, str _, str _, .int .i64 _, .int .u8 _]) hst ty74 rfl rfl (.here) fun w hst => ?_)
   refine AB rfl <| NL <| run_ret2 Try.func35 rfl (RV.cellA (vs := [.int .u16 _, str _, .bool _, .bool _, str _, str _, .int .i64 _, .int .u8 _]) rfl ty74 rfl rfl (cells_of_obj (n := 8) (hst.objL (.head _)) _ rfl)) (TP (v := .bool _) rfl) ?_
   subst g44
   have e : refS 134 = some ⟨134, [79, 112, 85, 68, 105, 118], true, true, [105, 105], [], 0, 8⟩ := by decide +kernel
   rw [e]
   exact ⟨rfl, hst.pure⟩
 refine SR <| CN <| Op1.eql rfl rfl <| AB rfl <| NL <| run_cond_dec rfl (fun g45 => ?_) (fun g45 => ?_)
 · skip
   refine SR <| MH rfl <| CN <| Op1.call8 (v1 := .int .u16 _) (v2 := str _) (v3 := .bool _) (v4 := .bool _) (v5 := str _) (v6 := str _) (v7 := .int .i64 _) (v8 := .int .u8 _) ent47 rfl rfl rfl rfl rfl rfl rfl rfl rfl <| Ret.det (R5ref_form _ _ _ _ _ _ _ _ _) hst fun w hst => CN (SO (v := .agg #[.int .u16 _, str _, .bool _, .bool _, str _, str _, .int .i64 _, .int .u8 _]) hst ty74 rfl rfl (.here) fun w hst => ?_)
   refine AB rfl <| NL <| run_ret2 Try.func35 rfl (RV.cellA (vs := [.int .u16 _, str _, .bool _, .bool _, str _, str _, .int .i64 _, .int .u8 _]) rfl ty74 rfl rfl (cells_of_obj (n := 8) (hst.objL (.head _)) _ rfl)) (TP (v := .bool _) rfl) ?_
   subst g45
   have e : refS 135 = some ⟨135, [79, 112, 83, 68, 105, 118], true, true, [105, 105], [], 0, 8⟩ := by decide +kernel
   rw [e]
   exact ⟨rfl, hst.pure⟩
 refine SR <| CN <| Op1.eql rfl rfl <| AB rfl <| NL <| run_cond_dec rfl (fun g46 => ?_) (fun g46 => ?_)
 · skip
   refine SR <| MH rfl <| CN <| Op1.call8 (v1 := .int .u16 _) (v2 := str _) (v3 := .bool _) (v4 := .bool _) (v5 := str _) (v6 := str _) (v7 := .int .i64 _) (v8 := .int .u8 _) ent47 rfl rfl rfl rfl rfl rfl rfl rfl rfl <| Ret.det (R5ref_form _ _ _ _ _ _ _ _ _) hst fun w hst => CN (SO (v := .agg #[.int .u16 _, str _, .bool _, .bool _, str _, str _, .int .i64 _, .int .u8 _]) hst ty74 rfl rfl (.here) fun w hst => ?_)
   refine AB rfl <| NL <| run_ret2 Try.func35 rfl (RV.cellA (vs := [.int .u16 _, str _, .bool _, .bool _, str _, str _, .int .i64 _, .int .u8 _]) rfl ty74 rfl rfl (cells_of_obj (n := 8) (hst.objL (.head _)) _ rfl)) (TP (v := .bool _) rfl) ?_
   subst g46
   have e : refS 137 = some ⟨137, [79, 112, 85, 77, 111, 100], true, true, [105, 105], [], 0, 8⟩ := by decide +kernel
   rw [e]
   exact ⟨rfl, hst.pure⟩
 refine SR <| CN <| Op1.eql rfl rfl <| AB rfl <| NL <| run_cond_dec rfl (fun g47 => ?_) (fun g47 => ?_)
 · skip
   refine SR <| MH rfl <| CN <| Op1.call8 (v1 := .int .u16 _) (v2 := str _) (v3 := .bool _) (v4 := .bool _) (v5 := str _) (v6 := str _) (v7 := .int .i64 _) (v8 := .int .u8 _) ent47 rfl rfl rfl rfl rfl rfl rfl rfl rfl <| Ret.det (R5ref_form _ _ _ _ _ _ _ _ _) hst fun w hst => CN (SO (v := .agg #[.int .u16 _, str _, .bool _, .bool _, str _, str _, .int .i64 _, .int .u8 _]) hst ty74 rfl rfl (.here) fun w hst => ?_)
   refine AB rfl <| NL <| run_ret2 Try.func35 rfl (RV.cellA (vs := [.int .u16 _, str _, .bool _, .bool _, str _, str _, .int .i64 _, .int .u8 _]) rfl ty74 rfl rfl (cells_of_obj (n := 8) (hst.objL (.head _)) _ rfl)) (TP (v := .bool _) rfl) ?_
   subst g47
   have e : refS 138 = some ⟨138, [79, 112, 83, 82, 101, 109], true, true, [105, 105], [], 0, 8⟩ := by decide +kernel
   rw [e]
   exact ⟨rfl, hst.pure⟩
 refine SR <| CN <| Op1.eql rfl rfl <| AB rfl <| NL <| Run.forget [(0, .int .u16 _), (2, .pointer (some ⟨_, _, none⟩)), (4, .int .u16 _), (193, .bool _)] ⟨rfl, rfl, rfl, rfl, trivial⟩ fun f => run_cond_dec rfl (fun g48 => ?_) (fun g48 => ?_)
 · skip
   refine SR <| MH rfl <| CN <| Op1.call8 (v1 := .int .u16 _) (v2 := str _) (v3 := .bool _) (v4 := .bool _) (v5 := str _) (v6 := str _) (v7 := .int .i64 _) (v8 := .int .u8 _) ent47 rfl rfl rfl rfl rfl rfl rfl rfl rfl <| Ret.det (R5ref_form _ _ _ _ _ _ _ _ _) hst fun w hst => CN (SO (v := .agg #[.int .u16 _, str _, .bool _, .bool _, str _, str _, .int .i64 _, .int .u8 _]) hst ty74 rfl rfl (.here) fun w hst => ?_)
   refine AB rfl <| NL <| run_ret2 Try.func35 rfl (RV.cellA (vs := [.int .u16 _, str _, .bool _, .bool _, str _, str _, .int .i64 _, .int .u8 _]) rfl ty74 rfl rfl (cells_of_obj (n := 8) (hst.objL (.head _)) _ rfl)) (TP (v := .bool _) rfl) ?_
   subst g48
   have e : refS 139 = some ⟨139, [79, 112, 83, 77, 111, 100], true, true, [105, 105], [], 0, 8⟩ := by decide +kernel
   rw [e]
   exact ⟨rfl, hst.pure⟩
 refine SR <| CN <| Op1.eql rfl rfl <| AB rfl <| NL <| run_cond_dec rfl (fun g49 => ?_) (fun g49 => ?_)
 · skip
   refine SR <| MH rfl <| CN <| Op1.call8 (v1 := .int .u16 _) (v2 := str _) (v3 := .bool _) (v4 := .bool _) (v5 := str _) (v6 := str _) (v7 := .int .i64 _) (v8 := .int .u8 _) ent47 rfl rfl rfl rfl rfl rfl rfl rfl rfl <| Ret.det (R5ref_form _ _ _ _ _ _ _ _ _) hst fun w hst => CN (SO (v := .agg #[.int .u16 _, str _, .bool _, .bool _, str _, str _, .int .i64 _, .int .u8 _]) hst ty74 rfl rfl (.here) fun w hst => ?_)
   refine AB rfl <| NL <| run_ret2 Try.func35 rfl (RV.cellA (vs := [.int .u16 _, str _, .bool _, .bool _, str _, str _, .int .i64 _, .int .u8 _]) rfl ty74 rfl rfl (cells_of_obj (n := 8) (hst.objL (.head _)) _ rfl)) (TP (v := .bool _) rfl) ?_
   subst g49
   have e : refS 149 = some ⟨149, [79, 112, 73, 65, 100, 100, 67, 97, 114, 114, 121], true, true, [105, 105], [], 0, 8⟩ := by decide +kernel
   rw [e]
   exact ⟨rfl, hst.pure⟩
 refine SR <| CN <| Op1.eql rfl rfl <| AB rfl <| NL <| run_cond_dec rfl (fun g50 => ?_) (fun g50 => ?_)
 · skip
   refine SR <| MH rfl <| CN <| Op1.call8 (v1 := .int .u16 _) (v2 := str _) (v3 := .bool _) (v4 := .bool _) (v5 := str _) (v6 := str _) (v7 := .int .i64 _) (v8 := .int .u8 _) ent47 rfl rfl rfl rfl rfl rfl rfl rfl rfl <| Ret.det (R5ref_form _ _ _ _ _ _ _ _ _) hst fun w hst => CN (SO (v := .agg #[.int .u16 _, str _, .bool _, .bool _, str _, str _, .int .i64 _, .int .u8 _]) hst ty74 rfl rfl (.here) fun w hst => ?_)
   refine AB rfl <| NL <| run_ret2 Try.func35 rfl (RV.cellA (vs := [.int .u16 _, str _, .bool _, .bool _, str _, str _, .int .i64 _, .int .u8 _]) rfl ty74 rfl rfl (cells_of_obj (n := 8) (hst.objL (.head _)) _ rfl)) (TP (v := .bool _) rfl) ?_
   subst g50
   have e : refS 150 = some ⟨150, [79, 112, 73, 83, 117, 98, 66, 111, 114, 114, 111, 119], true, true, [105, 105], [], 0, 8⟩ := by decide +kernel
   rw [e]
   exact ⟨rfl, hst.pure⟩
 refine SR <| CN <| Op1.eql rfl rfl <| AB rfl <| NL <| run_cond_dec rfl (fun g51 => ?_) (fun g51 => ?_)
 · skip
   refine SR <| MH rfl <| CN <| Op1.call8 (v1 := .int .u16 _) (v2 := str _) (v3 := .bool _) (v4 := .bool _) (v5 := str _) (v6 := str _) (v7 := .int .i64 _) (v8 := .int .u8 _) ent47 rfl rfl rfl rfl rfl rfl rfl rfl rfl <| Ret.det (R5ref_form _ _ _ _ _ _ _ _ _) hst fun w hst => CN (SO (v := .agg #[.int .u16 _, str _, .bool _, .bool _, str _, str _, .int .i64 _, .int .u8 _]) hst ty74 rfl rfl (.here) fun w hst => ?_)
   refine AB rfl <| NL <| run_ret2 Try.func35 rfl (RV.cellA (vs := [.int .u16 _, str _, .bool _, .bool _, str _, str _, .int .i64 _, .int .u8 _]) rfl ty74 rfl rfl (cells_of_obj (n := 8) (hst.objL (.head _)) _ rfl)) (TP (v := .bool _) rfl) ?_
   subst g51
   have e : refS 151 = some ⟨151, [79, 112, 85, 77, 117, 108, 69, 120, 116, 101, 110, 100, 101, 100], true, true, [105, 105], [], 0, 8⟩ := by decide +kernel
   rw [e]
   exact ⟨rfl, hst.pure⟩
 refine SR <| CN <| Op1.eql rfl rfl <| AB rfl <| NL <| run_cond_dec rfl (fun g52 => ?_) (fun g52 => ?_)
 · skip
   refine SR <| MH rfl <| CN <| Op1.call8 (v1 := .int .u16 _) (v2 := str _) (v3 := .bool _) (v4 := .bool _) (v5 := str _) (v6 := str _) (v7 := .int .i64 _) (v8 := .int .u8 _) ent47 rfl rfl rfl rfl rfl rfl rfl rfl rfl <| Ret.det (R5ref_form _ _ _ _ _ _ _ _ _) hst fun w hst => CN (SO (v := .agg #[.int .u16 _, str _, .bool _, .bool _, str _, str _, .int .i64 _, .int .u8 _]) hst ty74 rfl rfl (.here) fun w hst => ?_)
   refine AB rfl <| NL <| run_ret2 Try.func35 rfl (RV.cellA (vs := [.int .u16 _, str _, .bool _, .bool _, str _, str _, .int .i64 _, .int .u8 _]) rfl ty74 rfl rfl (cells_of_obj (n := 8) (hst.objL (.head _)) _ rfl)) (TP (v := .bool _) rfl) ?_
   subst g52
   have e : refS 152 = some ⟨152, [79, 112, 83, 77, 117, 108, 69, 120, 116, 101, 110, 100, 101, 100], true, true, [105, 105], [], 0, 8⟩ := by decide +kernel
   rw [e]
   exact ⟨rfl, hst.pure⟩
 refine SR <| CN <| Op1.eql rfl rfl <| AB rfl <| NL <| run_cond_dec rfl (fun g53 => ?_) (fun g53 => ?_)
 · skip
   refine SR <| MH rfl <| CN <| Op1.call8 (v1 := .int .u16 _) (v2 := str _) (v3 := .bool _) (v4 := .bool _) (v5 := str _) (v6 := str _) (v7 := .int .i64 _) (v8 := .int .u8 _) ent47 rfl rfl rfl rfl rfl rfl rfl rfl rfl <| Ret.det (R5ref_form _ _ _ _ _ _ _ _ _) hst fun w hst => CN (SO (v := .agg #[.int .u16 _, str _, .bool _, .bool _, str _, str _, .int .i64 _, .int .u8 _]) hst ty74 rfl rfl (.here) fun w hst => ?_)
   refine AB rfl <| NL <| run_ret2 Try.func35 rfl (RV.cellA (vs := [.int .u16 _, str _, .bool _, .bool _, str _, str _, .int .i64 _, .int .u8 _]) rfl ty74 rfl rfl (cells_of_obj (n := 8) (hst.objL (.head _)) _ rfl)) (TP (v := .bool _) rfl) ?_
   subst g53
   have e : refS 154 = some ⟨154, [79, 112, 65, 110, 121], true, true, [105], [], 0, 8⟩ := by decide +kernel
   rw [e]
   exact ⟨rfl, hst.pure⟩
 refine SR <| CN <| Op1.eql rfl rfl <| AB rfl <| NL <| run_cond_dec rfl (fun g54 => ?_) (fun g54 => ?_)
 · skip
   refine SR <| MH rfl <| CN <| Op1.call8 (v1 := .int .u16 _) (v2 := str _) (v3 := .bool _) (v4 := .bool _) (v5 := str _) (v6 := str _) (v7 := .int .i64 _) (v8 := .int .u8 _) ent47 rfl rfl rfl rfl rfl rfl rfl rfl rfl <| Ret.det (R5ref_form _ _ _ _ _ _ _ _ _) hst fun w hst => CN (SO (v := .agg #[.int .u16 _, str _, .bool _, .bool _, str _, str _, .int .i64 _, .int .u8 _]) hst ty74 rfl rfl (.here) fun w hst => ?_)
   refine AB rfl <| NL <| run_ret2 Try.func35 rfl (RV.cellA (vs := [.int .u16 _, str _, .bool _, .bool _, str _, str _, .int .i64 _, .int .u8 _]) rfl ty74 rfl rfl (cells_of_obj (n := 8) (hst.objL (.head _)) _ rfl)) (TP (v := .bool _) rfl) ?_
   subst g54
   have e : refS 155 = some ⟨155, [79, 112, 65, 108, 108], true, true, [105], [], 0, 8⟩ := by decide +kernel
   rw [e]
   exact ⟨rfl, hst.pure⟩
 refine SR <| CN <| Op1.eql rfl rfl <| AB rfl <| NL <| run_cond_dec rfl (fun g55 => ?_) (fun g55 => ?_)
 · skip
   refine SR <| MH rfl <| CN <| Op1.call8 (v1 := .int .u16 _) (v2 := str _) (v3 := .bool _) (v4 := .bool _) (v5 := str _) (v6 := str _) (v7 := .int .i64 _) (v8 := .int .u8 _) ent47 rfl rfl rfl rfl rfl rfl rfl rfl rfl <| Ret.det (R5ref_form _ _ _ _ _ _ _ _ _) hst fun w hst => CN (SO (v := .agg #[.int .u16 _, str _, .bool _, .bool _, str _, str _, .int .i64 _, .int .u8 _]) hst ty74 rfl rfl (.here) fun w hst => ?_)
   refine AB rfl <| NL <| run_ret2 Try.func35 rfl (RV.cellA (vs := [.int .u16 _, str _, .bool _, .bool _, str _, str _, .int .i64 _, .int .u8 _]) rfl ty74 rfl rfl (cells_of_obj (n := 8) (hst.objL (.head _)) _ rfl)) (TP (v := .bool _) rfl) ?_
   subst g55
   have e : refS 164 = some ⟨164, [79, 112, 76, 111, 103, 105, 99, 97, 108, 69, 113, 117, 97, 108], true, true, [105, 105], [], 0, 8⟩ := by decide +kernel
   rw [e]
   exact ⟨rfl, hst.pure⟩
 refine SR <| CN <| Op1.eql rfl rfl <| AB rfl <| NL <| run_cond_dec rfl (fun g56 => ?_) (fun g56 => ?_)
 · skip
   refine SR <| MH rfl <| CN <| Op1.call8 (v1 := .int .u16 _) (v2 := str _) (v3 := .bool _) (v4 := .bool _) (v5 := str _) (v6 := str _) (v7 := .int .i64 _) (v8 := .int .u8 _) ent47 rfl rfl rfl rfl rfl rfl rfl rfl rfl <| Ret.det (R5ref_form _ _ _ _ _ _ _ _ _) hst fun w hst => CN (SO (v := .agg #[.int .u16 _, str _, .bool _, .bool _, str _, str _, .int .i64 _, .int .u8 _]) hst ty74 rfl rfl (.here) fun w hst => ?_)
   refine AB rfl <| NL <| run_ret2 Try.func35 rfl (RV.cellA (vs := [.int .u16 _, str _, .bool _, .bool _, str _, str _, .int .i64 _, .int .u8 _]) rfl ty74 rfl rfl (cells_of_obj (n := 8) (hst.objL (.head _)) _ rfl)) (TP (v := .bool _) rfl) ?_
   subst g56
   have e : refS 165 = some ⟨165, [79, 112, 76, 111, 103, 105, 99, 97, 108, 78, 111, 116, 69, 113, 117, 97, 108], true, true, [105, 105], [], 0, 8⟩ := by decide +kernel
   rw [e]
   exact ⟨rfl, hst.pure⟩
 refine SR <| CN <| Op1.eql rfl rfl <| AB rfl <| NL <| run_cond_dec rfl (fun g57 => ?_) (fun g57 => ?_)
 · skip
   refine SR <| MH rfl <| CN <| Op1.call8 (v1 := .int .u16 _) (v2 := str _) (v3 := .bool _) (v4 := .bool _) (v5 := str _) (v6 := str _) (v7 := .int .i64 _) (v8 := .int .u8 _) ent47 rfl rfl rfl rfl rfl rfl rfl rfl rfl <| Ret.det (R5ref_form _ _ _ _ _ _ _ _ _) hst fun w hst => CN (SO (v := .agg #[.int .u16 _, str _, .bool _, .bool _, str _, str _, .int .i64 _, .int .u8 _]) hst ty74 rfl rfl (.here) fun w hst => ?_)
   refine AB rfl <| NL <| run_ret2 Try.func35 rfl (RV.cellA (vs := [.int .u16 _, str _, .bool _, .bool _, str _, str _, .int .i64 _, .int .u8 _]) rfl ty74 rfl rfl (cells_of_obj (n := 8) (hst.objL (.head _)) _ rfl)) (TP (v := .bool _) rfl) ?_
   subst g57
   have e : refS 166 = some ⟨166, [79, 112, 76, 111, 103, 105, 99, 97, 108, 79, 114], true, true, [105, 105], [], 0, 8⟩ := by decide +kernel
   rw [e]
   exact ⟨rfl, hst.pure⟩
 refine SR <| CN <| Op1.eql rfl rfl <| AB rfl <| NL <| Run.forget [(0, .int .u16 _), (2, .pointer (some ⟨_, _, none⟩)), (4, .int .u16 _), (233, .bool _)] ⟨rfl, rfl, rfl, rfl, trivial⟩ fun f => run_cond_dec rfl (fun g58 => ?_) (fun g58 => ?_)
 · skip
   refine SR <| MH rfl <| CN <| Op1.call8 (v1 := .int .u16 _) (v2 := str _) (v3 := .bool _) (v4 := .bool _) (v5 := str _) (v6 := str _) (v7 := .int .i64 _) (v8 := .int .u8 _) ent47 rfl rfl rfl rfl rfl rfl rfl rfl rfl <| Ret.det (R5ref_form _ _ _ _ _ _ _ _ _) hst fun w hst => CN (SO (v := .agg #[.int .u16 _, str _, .bool _, .bool _, str _, str _, .int .i64 _, .int .u8 _]) hst ty74 rfl rfl (.here) fun w hst => ?_)
   refine AB rfl <| NL <| run_ret2 Try.func35 rfl (RV.cellA (vs := [.int .u16 _, str _, .bool _, .bool _, str _, str _, .int .i64 _, .int .u8 _]) rfl ty74 rfl rfl (cells_of_obj (n := 8) (hst.objL (.head _)) _ rfl)) (TP (v := .bool _) rfl) ?_
   subst g58
   have e : refS 167 = some ⟨167, [79, 112, 76, 111, 103, 105, 99, 97, 108, 65, 110, 100], true, true, [105, 105], [], 0, 8⟩ := by decide +kernel
   rw [e]
   exact ⟨rfl, hst.pure⟩
 refine SR <| CN <| Op1.eql rfl rfl <| AB rfl <| NL <| run_cond_dec rfl (fun g59 => ?_) (fun g59 => ?_)
 · skip
   refine SR <| MH rfl <| CN <| Op1.call8 (v1 := .int .u16 _) (v2 := str _) (v3 := .bool _) (v4 := .bool _) (v5 := str _) (v6 := str _) (v7 := .int .i64 _) (v8 := .int .u8 _) ent47 rfl rfl rfl rfl rfl rfl rfl rfl rfl <| Ret.det (R5ref_form _ _ _ _ _ _ _ _ _) hst fun w hst => CN (SO (v := .agg #[.int .u16 _, str _, .bool _, .bool _, str _, str _, .int .i64 _, .int .u8 _]) hst ty74 rfl rfl (.here) fun w hst => ?_)
   refine AB rfl <| NL <| run_ret2 Try.func35 rfl (RV.cellA (vs := [.int .u16 _, str _, .bool _, .bool _, str _, str _, .int .i64 _, .int .u8 _]) rfl ty74 rfl rfl (cells_of_obj (n := 8) (hst.objL (.head _)) _ rfl)) (TP (v := .bool _) rfl) ?_
   subst g59
   have e : refS 168 = some ⟨168, [79, 112, 76, 111, 103, 105, 99, 97, 108, 78, 111, 116], true, true, [105], [], 0, 8⟩ := by decide +kernel
   rw [e]
   exact ⟨rfl, hst.pure⟩
 refine SR <| CN <| Op1.eql rfl rfl <| AB rfl <| NL <| run_cond_dec rfl (fun g60 => ?_) (fun g60 => ?_)
 · skip
   refine SR <| MH rfl <| CN <| Op1.call8 (v1 := .int .u16 _) (v2 := str _) (v3 := .bool _) (v4 := .bool _) (v5 := str _) (v6 := str _) (v7 := .int .i64 _) (v8 := .int .u8 _) ent47 rfl rfl rfl rfl rfl rfl rfl rfl rfl <| Ret.det (R5ref_form _ _ _ _ _ _ _ _ _) hst fun w hst => CN (SO (v := .agg #[.int .u16 _, str _, .bool _, .bool _, str _, str _, .int .i64 _, .int .u8 _]) hst ty74 rfl rfl (.here) fun w hst => ?_)
   refine AB rfl <| NL <| run_ret2 Try.func35 rfl (RV.cellA (vs := [.int .u16 _, str _, .bool _, .bool _, str _, str _, .int .i64 _, .int .u8 _]) rfl ty74 rfl rfl (cells_of_obj (n := 8) (hst.objL (.head _)) _ rfl)) (TP (v := .bool _) rfl) ?_
   subst g60
   have e : refS 169 = some ⟨169, [79, 112, 83, 101, 108, 101, 99, 116], true, true, [105, 105, 105], [], 0, 8⟩ := by decide +kernel
   rw [e]
   exact ⟨rfl, hst.pure⟩
 refine SR <| CN <| Op1.eql rfl rfl <| AB rfl <| NL <| run_cond_dec rfl (fun g61 => ?_) (fun g61 => ?_)
 · skip
   refine SR <| MH rfl <| CN <| Op1.call8 (v1 := .int .u16 _) (v2 := str _) (v3 := .bool _) (v4 := .bool _) (v5 := str _) (v6 := str _) (v7 := .int .i64 _) (v8 := .int .u8 _) ent47 rfl rfl rfl rfl rfl rfl rfl rfl rfl <| Ret.det (R5ref_form _ _ _ _ _ _ _ _ _) hst fun w hst => CN (SO (v := .agg #[.int .u16 _, str _, .bool _, .bool _, str _, str _, .int .i64 _, .int .u8 _]) hst ty74 rfl rfl (.here) fun w hst => ?_)
   refine AB rfl <| NL <| run_ret2 Try.func35 rfl (RV.cellA (vs := [.int .u16 _, str _, .bool _, .bool _, str _, str _, .int .i64 _, .int .u8 _]) rfl ty74 rfl rfl (cells_of_obj (n := 8) (hst.objL (.head _)) _ rfl)) (TP (v := .bool _) rfl) ?_
   subst g61
   have e : refS 170 = some ⟨170, [79, 112, 73, 69, 113, 117, 97, 108], true, true, [105, 105], [], 0, 8⟩ := by decide +kernel
   rw [e]
   exact ⟨rfl, hst.pure⟩
 refine SR <| CN <| Op1.eql rfl rfl <| AB rfl <| NL <| run_cond_dec rfl (fun g62 => ?_) (fun g62 => ?_)
 · skip
   refine SR <| MH rfl <| CN <| Op1.call8 (v1 := .int .u16 _) (v2 := str _) (v3 := .bool _) (v4 := .bool _) (v5 := str _) (v6 := str _) (v7 := .int .i64 _) (v8 := .int .u8 _) ent47 rfl rfl rfl rfl rfl rfl rfl rfl rfl <| Ret.det (R5ref_form _ _ _ _ _ _ _ _ _) hst fun w hst => CN (SO (v := .agg #[.int .u16 _, str _, .bool _, .bool _, str _, str _, .int .i64 _, .int .u8 _]) hst ty74 rfl rfl (.here) fun w hst => ?_)
   refine AB rfl <| NL <| run_ret2 Try.func35 rfl (RV.cellA (vs := [.int .u16 _, str _, .bool _, .bool _, str _, str _, .int .i64 _, .int .u8 _]) rfl ty74 rfl rfl (cells_of_obj (n := 8) (hst.objL (.head _)) _ rfl)) (TP (v := .bool _) rfl) ?_
   subst g62
   have e : refS 171 = some ⟨171, [79, 112, 73, 78, 111, 116, 69, 113, 117, 97, 108], true, true, [105, 105], [], 0, 8⟩ := by decide +kernel
   rw [e]
   exact ⟨rfl, hst.pure⟩
 refine SR <| CN <| Op1.eql rfl rfl <| AB rfl <| NL <| run_cond_dec rfl (fun g63 => ?_) (fun g63 => ?_)
 · skip
   refine SR <| MH rfl <| CN <| Op1.call8 (v1 := .int .u16 _) (v2 := str _) (v3 := .bool _) (v4 := .bool _) (v5 := str _) (v6 := str _) (v7 := .int .i64 _) (v8 := .int .u8 _) ent47 rfl rfl rfl rfl rfl rfl rfl rfl rfl <| Ret.det (R5ref_form _ _ _ _ _ _ _ _ _) hst fun w hst => CN (SO (v := .agg #[.int .u16 _, str _, .bool _, .bool _, str _, str _, .int .i64 _, .int .u8 _]) hst ty74 rfl rfl (.here) fun w hst => ?_)
   refine AB rfl <| NL <| run_ret2 Try.func35 rfl (RV.cellA (vs := [.int .u16 _, str _, .bool _, .bool _, str _, str _, .int .i64 _, .int .u8 _]) rfl ty74 rfl rfl (cells_of_obj (n := 8) (hst.objL (.head _)) _ rfl)) (TP (v := .bool _) rfl) ?_
   subst g63
   have e : refS 172 = some ⟨172, [79, 112, 85, 71, 114, 101, 97, 116, 101, 114, 84, 104, 97, 110], true, true, [105, 105], [], 0, 8⟩ := by decide +kernel
   rw [e]
   exact ⟨rfl, hst.pure⟩
 refine SR <| CN <| Op1.eql rfl rfl <| AB rfl <| NL <| run_cond_dec rfl (fun g64 => ?_) (fun g64 => ?_)
 · skip
   refine SR <| MH rfl <| CN <| Op1.call8 (v1 := .int .u16 _) (v2 := str _) (v3 := .bool _) (v4 := .bool _) (v5 := str _) (v6 := str _) (v7 := .int .i64 _) (v8 := .int .u8 _) ent47 rfl rfl rfl rfl rfl rfl rfl rfl rfl <| Ret.det (R5ref_form _ _ _ _ _ _ _ _ _) hst fun w hst => CN (SO (v := .agg #[.int .u16 _, str _, .bool _, .bool _, str _, str _, .int .i64 _, .int .u8 _]) hst ty74 rfl rfl (.here) fun w hst => ?_)
   refine AB rfl <| NL <| run_ret2 Try.func35 rfl (RV.cellA (vs := [.int .u16 _, str _, .bool _, .bool _, str _, str _, .int .i64 _, .int .u8 _]) rfl ty74 rfl rfl (cells_of_obj (n := 8) (hst.objL (.head _)) _ rfl)) (TP (v := .bool _) rfl) ?_
   subst g64
   have e : refS 173 = some ⟨173, [79, 112, 83, 71, 114, 101, 97, 116, 101, 114, 84, 104, 97, 110], true, true, [105, 105], [], 0, 8⟩ := by decide +kernel
   rw [e]
   exact ⟨rfl, hst.pure⟩
 refine SR <| CN <| Op1.eql rfl rfl <| AB rfl <| NL <| run_cond_dec rfl (fun g65 => ?_) (fun g65 => ?_)
 · skip
   refine SR <| MH rfl <| CN <| Op1.call8 (v1 := .int .u16 _) (v2 := str _) (v3 := .bool _) (v4 := .bool _) (v5 := str _) (v6 := str _) (v7 := .int .i64 _) (v8 := .int .u8 _) ent47 rfl rfl rfl rfl rfl rfl rfl rfl rfl <| Ret.det (R5ref_form _ _ _ _ _ _ _ _ _) hst fun w hst => CN (SO (v := .agg #[.int .u16 _, str _, .bool _, .bool _, str _, str _, .int .i64 _, .int .u8 _]) hst ty74 rfl rfl (.here) fun w hst => ?_)
   refine AB rfl <| NL <| run_ret2 Try.func35 rfl (RV.cellA (vs := [.int .u16 _, str _, .bool _, .bool _, str _, str _, .int .i64 _, .int .u8 _]) rfl ty74 rfl rfl (cells_of_obj (n := 8) (hst.objL (.head _)) _ rfl)) (TP (v := .bool _) rfl) ?_
   subst g65
   have e : refS 174 = some ⟨174, [79, 112, 85, 71, 114, 101, 97, 116, 101, 114, 84, 104, 97, 110, 69, 113, 117, 97, 108], true, true, [105, 105], [], 0, 8⟩ := by decide +kernel
   rw [e]
   exact ⟨rfl, hst.pure⟩
 refine SR <| CN <| Op1.eql rfl rfl <| AB rfl <| NL <| run_cond_dec rfl (fun g66 => ?_) (fun g66 => ?_)
 · skip
   refine SR <| MH rfl <| CN <| Op1.call8 (v1 := .int .u16 _) (v2 := str _) (v3 := .bool _) (v4 := .bool _) (v5 := str _) (v6 := str _) (v7 := .int .i64 _) (v8 := .int .u8 _) ent47 rfl rfl rfl rfl rfl rfl rfl rfl rfl <| Ret.det (R5ref_form _ _ _ _ _ _ _ _ _) hst fun w hst => CN (SO (v := .agg #[.int .u16 _, str _, .bool _, .bool _, str _, str _, .int .i64 _, .int .u8 _]) hst ty74 rfl rfl (.here) fun w hst => ?_)
   refine AB rfl <| NL <| run_ret2 Try.func35 rfl (RV.cellA (vs := [.int .u16 _, str _, .bool _, .bool _, str _, str _, .int .i64 _, .int .u8 _]) rfl ty74 rfl rfl (cells_of_obj (n := 8) (hst.objL (.head _)) _ rfl)) (TP (v := .bool _) rfl) ?_
   subst g66
   have e : refS 175 = some ⟨175, [79, 112, 83, 71, 114, 101, 97, 116, 101, 114, 84, 104, 97, 110, 69, 113, 117, 97, 108], true, true, [105, 105], [], 0, 8⟩ := by decide +kernel
   rw [e]
   exact ⟨rfl, hst.pure⟩
 refine SR <| CN <| Op1.eql rfl rfl <| AB rfl <| NL <| run_cond_dec rfl (fun g67 => ?_) (fun g67 => ?_)
 · skip
   refine SR <| MH rfl <| CN <| Op1.call8 (v1 := .int .u16 _) (v2 := str _) (v3 := .bool _) (v4 := .bool _) (v5 := str _) (v6 := str _) (v7 := .int .i64 _) (v8 := .int .u8 _) ent47 rfl rfl rfl rfl rfl rfl rfl rfl rfl <| Ret.det (R5ref_form _ _ _ _ _ _ _ _ _) hst fun w hst => CN (SO (v := .agg #[.int .u16 _, str _, .bool _, .bool _, str _, str _, .int .i64 _, .int .u8 _]) hst ty74 rfl rfl (.here) fun w hst => ?_)
   refine AB rfl <| NL <| run_ret2 Try.func35 rfl (RV.cellA (vs := [.int .u16 _, str _, .bool _, .bool _, str _, str _, .int .i64 _, .int .u8 _]) rfl ty74 rfl rfl (cells_of_obj (n := 8) (hst.objL (.head _)) _ rfl)) (TP (v := .bool _) rfl) ?_
   subst g67
   have e : refS 176 = some ⟨176, [79, 112, 85, 76, 101, 115, 115, 84, 104, 97, 110], true, true, [105, 105], [], 0, 8⟩ := by decide +kernel
   rw [e]
   exact ⟨rfl, hst.pure⟩
 refine SR <| CN <| Op1.eql rfl rfl <| AB rfl <| NL <| Run.forget [(0, .int .u16 _), (2, .pointer (some ⟨_, _, none⟩)), (4, .int .u16 _), (273, .bool _)] ⟨rfl, rfl, rfl, rfl, trivial⟩ fun f => run_cond_dec rfl (fun g68 => ?_) (fun g68 => ?_)
 · skip
   refine SR <| MH rfl <| CN <| Op1.call8 (v1 := .int .u16 _) (v2 := str _) (v3 := .bool _) (v4 := .bool _) (v5 := str _) (v6 := str _) (v7 := .int .i64 _) (v8 := .int .u8 _) ent47 rfl rfl rfl rfl rfl rfl rfl rfl rfl <| Ret.det (R5ref_form _ _ _ _ _ _ _ _ _) hst fun w hst => CN (SO (v := .agg #[.int .u16 _, str _, .bool _, .bool _, str _, str _, .int .i64 _, .int .u8 _]) hst ty74 rfl rfl (.here) fun w hst => ?_)
   refine AB rfl <| NL <| run_ret2 Try.func35 rfl (RV.cellA (vs := [.int .u16 _, str _, .bool _, .bool _, str _, str _, .int .i64 _, .int .u8 _]) rfl ty74 rfl rfl (cells_of_obj (n := 8) (hst.objL (.head _)) _ rfl)) (TP (v := .bool _) rfl) ?_
   subst g68
   have e : refS 177 = some ⟨177, [79, 112, 83, 76, 101, 115, 115, 84, 104, 97, 110], true, true, [105, 105], [], 0, 8⟩ := by decide +kernel
   rw [e]
   exact ⟨rfl, hst.pure⟩
 refine SR <| CN <| Op1.eql rfl rfl <| AB rfl <| NL <| run_cond_dec rfl (fun g69 => ?_) (fun g69 => ?_)
 · skip
   refine SR <| MH rfl <| CN <| Op1.call8 (v1 := .int .u16 _) (v2 := str _) (v3 := .bool _) (v4 := .bool _) (v5 := str _) (v6 := str _) (v7 := .int .i64 _) (v8 := .int .u8 _) ent47 rfl rfl rfl rfl rfl rfl rfl rfl rfl <| Ret.det (R5ref_form _ _ _ _ _ _ _ _ _) hst fun w hst => CN (SO (v := .agg #[.int .u16 _, str _, .bool _, .bool _, str _, str _, .int .i64 _, .int .u8 _]) hst ty74 rfl rfl (.here) fun w hst => ?_)
   refine AB rfl <| NL <| run_ret2 Try.func35 rfl (RV.cellA (vs := [.int .u16 _, str _, .bool _, .bool _, str _, str _, .int .i64 _, .int .u8 _]) rfl ty74 rfl rfl (cells_of_obj (n := 8) (hst.objL (.head _)) _ rfl)) (TP (v := .bool _) rfl) ?_
   subst g69
   have e : refS 178 = some ⟨178, [79, 112, 85, 76, 101, 115, 115, 84, 104, 97, 110, 69, 113, 117, 97, 108], true, true, [105, 105], [], 0, 8⟩ := by decide +kernel
   rw [e]
   exact ⟨rfl, hst.pure⟩
 refine SR <| CN <| Op1.eql rfl rfl <| AB rfl <| NL <| run_cond_dec rfl (fun g70 => ?_) (fun g70 => ?_)
 · skip
   refine SR <| MH rfl <| CN <| Op1.call8 (v1 := .int .u16 _) (v2 := str _) (v3 := .bool _) (v4 := .bool _) (v5 := str _) (v6 := str _) (v7 := .int .i64 _) (v8 := .int .u8 _) ent47 rfl rfl rfl rfl rfl rfl rfl rfl rfl <| Ret.det (R5ref_form _ _ _ _ _ _ _ _ _) hst fun w hst => CN (SO (v := .agg #[.int .u16 _, str _, .bool _, .bool _, str _, str _, .int .i64 _, .int .u8 _]) hst ty74 rfl rfl (.here) fun w hst => ?_)
   refine AB rfl <| NL <| run_ret2 Try.func35 rfl (RV.cellA (vs := [.int .u16 _, str _, .bool _, .bool _, str _, str _, .int .i64 _, .int .u8 _]) rfl ty74 rfl rfl (cells_of_obj (n := 8) (hst.objL (.head _)) _ rfl)) (TP (v := .bool _) rfl) ?_
   subst g70
   have e : refS 179 = some ⟨179, [79, 112, 83, 76, 101, 115, 115, 84, 104, 97, 110, 69, 113, 117, 97, 108], true, true, [105, 105], [], 0, 8⟩ := by decide +kernel
   rw [e]
   exact ⟨rfl, hst.pure⟩
 refine SR <| CN <| Op1.eql rfl rfl <| AB rfl <| NL <| run_cond_dec rfl (fun g71 => ?_) (fun g71 => ?_)
 · skip
   refine SR <| MH rfl <| CN <| Op1.call8 (v1 := .int .u16 _) (v2 := str _) (v3 := .bool _) (v4 := .bool _) (v5 := str _) (v6 := str _) (v7 := .int .i64 _) (v8 := .int .u8 _) ent47 rfl rfl rfl rfl rfl rfl rfl rfl rfl <| Ret.det (R5ref_form _ _ _ _ _ _ _ _ _) hst fun w hst => CN (SO (v := .agg #[.int .u16 _, str _, .bool _, .bool _, str _, str _, .int .i64 _, .int .u8 _]) hst ty74 rfl rfl (.here) fun w hst => ?_)
   refine AB rfl <| NL <| run_ret2 Try.func35 rfl (RV.cellA (vs := [.int .u16 _, str _, .bool _, .bool _, str _, str _, .int .i64 _, .int .u8 _]) rfl ty74 rfl rfl (cells_of_obj (n := 8) (hst.objL (.head _)) _ rfl)) (TP (v := .bool _) rfl) ?_
   subst g71
   have e : refS 194 = some ⟨194, [79, 112, 83, 104, 105, 102, 116, 82, 105, 103, 104, 116, 76, 111, 103, 105, 99, 97, 108], true, true, [105, 105], [], 0, 8⟩ := by decide +kernel
   rw [e]
   exact ⟨rfl, hst.pure⟩
 refine SR <| CN <| Op1.eql rfl rfl <| AB rfl <| NL <| run_cond_dec rfl (fun g72 => ?_) (fun g72 => ?_)
 · skip
   refine SR <| MH rfl <| CN <| Op1.call8 (v1 := .int .u16 _) (v2 := str _) (v3 := .bool _) (v4 := .bool _) (v5 := str _) (v6 := str _) (v7 := .int .i64 _) (v8 := .int .u8 _) ent47 rfl rfl rfl rfl rfl rfl rfl rfl rfl <| Ret.det (R5ref_form _ _ _ _ _ _ _ _ _) hst fun w hst => CN (SO (v := .agg #[.int .u16 _, str _, .bool _, .bool _, str _, str _, .int .i64 _, .int .u8 _]) hst ty74 rfl rfl (.here) fun w hst => ?_)
   refine AB rfl <| NL <| run_ret2 Try.func35 rfl (RV.cellA (vs := [.int .u16 _, str _, .bool _, .bool _, str _, str _, .int .i64 _, .int .u8 _]) rfl ty74 rfl rfl (cells_of_obj (n := 8) (hst.objL (.head _)) _ rfl)) (TP (v := .bool _) rfl) ?_
   subst g72
   have e : refS 195 = some ⟨195, [79, 112, 83, 104, 105, 102, 116, 82, 105, 103, 104, 116, 65, 114, 105, 116, 104, 109, 101, 116, 105, 99], true, true, [105, 105], [], 0, 8⟩ := by decide +kernel
   rw [e]
   exact ⟨rfl, hst.pure⟩
 refine SR <| CN <| Op1.eql rfl rfl <| AB rfl <| NL <| run_cond_dec rfl (fun g73 => ?_) (fun g73 => ?_)
 · skip
   refine SR <| MH rfl <| CN <| Op1.call8 (v1 := .int .u16 _) (v2 := str _) (v3 := .bool _) (v4 := .bool _) (v5 := str _) (v6 := str _) (v7 := .int .i64 _) (v8 := .int .u8 _) ent47 rfl rfl rfl rfl rfl rfl rfl rfl rfl <| Ret.det (R5ref_form _ _ _ _ _ _ _ _ _) hst fun w hst => CN (SO (v := .agg #[.int .u16 _, str _, .bool _, .bool _, str _, str _, .int .i64 _, .int .u8 _]) hst ty74 rfl rfl (.here) fun w hst => ?_)
   refine AB rfl <| NL <| run_ret2 Try.func35 rfl (RV.cellA (vs := [.int .u16 _, str _, .bool _, .bool _, str _, str _, .int .i64 _, .int .u8 _]) rfl ty74 rfl rfl (cells_of_obj (n := 8) (hst.objL (.head _)) _ rfl)) (TP (v := .bool _) rfl) ?_
   subst g73
   have e : refS 196 = some ⟨196, [79, 112, 83, 104, 105, 102, 116, 76, 101, 102, 116, 76, 111, 103, 105, 99, 97, 108], true, true, [105, 105], [], 0, 8⟩ := by decide +kernel
   rw [e]
   exact ⟨rfl, hst.pure⟩
 refine SR <| CN <| Op1.eql rfl rfl <| AB rfl <| NL <| run_cond_dec rfl (fun g74 => ?_) (fun g74 => ?_)
 · skip
   refine SR <| MH rfl <| CN <| Op1.call8 (v1 := .int .u16 _) (v2 := str _) (v3 := .bool _) (v4 := .bool _) (v5 := str _) (v6 := str _) (v7 := .int .i64 _) (v8 := .int .u8 _) ent47 rfl rfl rfl rfl rfl rfl rfl rfl rfl <| Ret.det (R5ref_form _ _ _ _ _ _ _ _ _) hst fun w hst => CN (SO (v := .agg #[.int .u16 _, str _, .bool _, .bool _, str _, str _, .int .i64 _, .int .u8 _]) hst ty74 rfl rfl (.here) fun w hst => ?_)
   refine AB rfl <| NL <| run_ret2 Try.func35 rfl (RV.cellA (vs := [.int .u16 _, str _, .bool _, .bool _, str _, str _, .int .i64 _, .int .u8 _]) rfl ty74 rfl rfl (cells_of_obj (n := 8) (hst.objL (.head _)) _ rfl)) (TP (v := .bool _) rfl) ?_
   subst g74
   have e : refS 197 = some ⟨197, [79, 112, 66, 105, 116, 119, 105, 115, 101, 79, 114], true, true, [105, 105], [], 0, 8⟩ := by decide +kernel
   rw [e]
   exact ⟨rfl, hst.pure⟩
 refine SR <| CN <| Op1.eql rfl rfl <| AB rfl <| NL <| run_cond_dec rfl (fun g75 => ?_) (fun g75 => ?_)
 · skip
   refine SR <| MH rfl <| CN <| Op1.call8 (v1 := .int .u16 _) (v2 := str _) (v3 := .bool _) (v4 := .bool _) (v5 := str _) (v6 := str _) (v7 := .int .i64 _) (v8 := .int .u8 _) ent47 rfl rfl rfl rfl rfl rfl rfl rfl rfl <| Ret.det (R5ref_form _ _ _ _ _ _ _ _ _) hst fun w hst => CN (SO (v := .agg #[.int .u16 _, str _, .bool _, .bool _, str _, str _, .int .i64 _, .int .u8 _]) hst ty74 rfl rfl (.here) fun w hst => ?_)
   refine AB rfl <| NL <| run_ret2 Try.func35 rfl (RV.cellA (vs := [.int .u16 _, str _, .bool _, .bool _, str _, str _, .int .i64 _, .int .u8 _]) rfl ty74 rfl rfl (cells_of_obj (n := 8) (hst.objL (.head _)) _ rfl)) (TP (v := .bool _) rfl) ?_
   subst g75
   have e : refS 198 = some ⟨198, [79, 112, 66, 105, 116, 119, 105, 115, 101, 88, 111, 114], true, true, [105, 105], [], 0, 8⟩ := by decide +kernel
   rw [e]
   exact ⟨rfl, hst.pure⟩
 refine SR <| CN <| Op1.eql rfl rfl <| AB rfl <| NL <| run_cond_dec rfl (fun g76 => ?_) (fun g76 => ?_)
 · skip
   refine SR <| MH rfl <| CN <| Op1.call8 (v1 := .int .u16 _) (v2 := str _) (v3 := .bool _) (v4 := .bool _) (v5 := str _) (v6 := str _) (v7 := .int .i64 _) (v8 := .int .u8 _) ent47 rfl rfl rfl rfl rfl rfl rfl rfl rfl <| Ret.det (R5ref_form _ _ _ _ _ _ _ _ _) hst fun w hst => CN (SO (v := .agg #[.int .u16 _, str _, .bool _, .bool _, str _, str _, .int .i64 _, .int .u8 _]) hst ty74 rfl rfl (.here) fun w hst => ?_)
   refine AB rfl <| NL <| run_ret2 Try.func35 rfl (RV.cellA (vs := [.int .u16 _, str _, .bool _, .bool _, str _, str _, .int .i64 _, .int .u8 _]) rfl ty74 rfl rfl (cells_of_obj (n := 8) (hst.objL (.head _)) _ rfl)) (TP (v := .bool _) rfl) ?_
   subst g76
   have e : refS 199 = some ⟨199, [79, 112, 66, 105, 116, 119, 105, 115, 101, 65, 110, 100], true, true, [105, 105], [], 0, 8⟩ := by decide +kernel
   rw [e]
   exact ⟨rfl, hst.pure⟩
 refine SR <| CN <| Op1.eql rfl rfl <| AB rfl <| NL <| run_cond_dec rfl (fun g77 => ?_) (fun g77 => ?_)
 · skip
   refine SR <| MH rfl <| CN <| Op1.call8 (v1 := .int .u16 _) (v2 := str _) (v3 := .bool _) (v4 := .bool _) (v5 := str _) (v6 := str _) (v7 := .int .i64 _) (v8 := .int .u8 _) ent47 rfl rfl rfl rfl rfl rfl rfl rfl rfl <| Ret.det (R5ref_form _ _ _ _ _ _ _ _ _) hst fun w hst => CN (SO (v := .agg #[.int .u16 _, str _, .bool _, .bool _, str _, str _, .int .i64 _, .int .u8 _]) hst ty74 rfl rfl (.here) fun w hst => ?_)
   refine AB rfl <| NL <| run_ret2 Try.func35 rfl (RV.cellA (vs := [.int .u16 _, str _, .bool _, .bool _, str _, str _, .int .i64 _, .int .u8 _]) rfl ty74 rfl rfl (cells_of_obj (n := 8) (hst.objL (.head _)) _ rfl)) (TP (v := .bool _) rfl) ?_
   subst g77
   have e : refS 200 = some ⟨200, [79, 112, 78, 111, 116], true, true, [105], [], 0, 8⟩ := by decide +kernel
   rw [e]
   exact ⟨rfl, hst.pure⟩
 refine SR <| CN <| Op1.eql rfl rfl <| AB rfl <| NL <| Run.forget [(0, .int .u16 _), (2, .pointer (some ⟨_, _, none⟩)), (4, .int .u16 _), (313, .bool _)] ⟨rfl, rfl, rfl, rfl, trivial⟩ fun f => run_cond_dec rfl (fun g78 => ?_) (fun g78 => ?_)
 · skip
   refine SR <| MH rfl <| CN <| Op1.call8 (v1 := .int .u16 _) (v2 := str _) (v3 := .bool _) (v4 := .bool _) (v5 := str _) (v6 := str _) (v7 := .int .i64 _) (v8 := .int .u8 _) ent47 rfl rfl rfl rfl rfl rfl rfl rfl rfl <| Ret.det (R5ref_form _ _ _ _ _ _ _ _ _) hst fun w hst => CN (SO (v := .agg #[.int .u16 _, str _, .bool _, .bool _, str _, str _, .int .i64 _, .int .u8 _]) hst ty74 rfl rfl (.here) fun w hst => ?_)
   refine AB rfl <| NL <| run_ret2 Try.func35 rfl (RV.cellA (vs := [.int .u16 _, str _, .bool _, .bool _, str _, str _, .int .i64 _, .int .u8 _]) rfl ty74 rfl rfl (cells_of_obj (n := 8) (hst.objL (.head _)) _ rfl)) (TP (v := .bool _) rfl) ?_
   subst g78
   have e : refS 201 = some ⟨201, [79, 112, 66, 105, 116, 70, 105, 101, 108, 100, 73, 110, 115, 101, 114, 116], true, true, [105, 105, 105, 105], [], 0, 8⟩ := by decide +kernel
   rw [e]
   exact ⟨rfl, hst.pure⟩
 refine SR <| CN <| Op1.eql rfl rfl <| AB rfl <| NL <| run_cond_dec rfl (fun g79 => ?_) (fun g79 => ?_)
 · skip
   refine SR <| MH rfl <| CN <| Op1.call8 (v1 := .int .u16 _) (v2 := str _) (v3 := .bool _) (v4 := .bool _) (v5 := str _) (v6 := str _) (v7 := .int .i64 _) (v8 := .int .u8 _) ent47 rfl rfl rfl rfl rfl rfl rfl rfl rfl <| Ret.det (R5ref_form _ _ _ _ _ _ _ _ _) hst fun w hst => CN (SO (v := .agg #[.int .u16 _, str _, .bool _, .bool _, str _, str _, .int .i64 _, .int .u8 _]) hst ty74 rfl rfl (.here) fun w hst => ?_)
   refine AB rfl <| NL <| run_ret2 Try.func35 rfl (RV.cellA (vs := [.int .u16 _, str _, .bool _, .bool _, str _, str _, .int .i64 _, .int .u8 _]) rfl ty74 rfl rfl (cells_of_obj (n := 8) (hst.objL (.head _)) _ rfl)) (TP (v := .bool _) rfl) ?_
   subst g79
   have e : refS 202 = some ⟨202, [79, 112, 66, 105, 116, 70, 105, 101, 108, 100, 83, 69, 120, 116, 114, 97, 99, 116], true, true, [105, 105, 105], [], 0, 8⟩ := by decide +kernel
   rw [e]
   exact ⟨rfl, hst.pure⟩
 refine SR <| CN <| Op1.eql rfl rfl <| AB rfl <| NL <| run_cond_dec rfl (fun g80 => ?_) (fun g80 => ?_)
 · skip
   refine SR <| MH rfl <| CN <| Op1.call8 (v1 := .int .u16 _) (v2 := str _) (v3 := .bool _) (v4 := .bool _) (v5 := str _) (v6 := str _) (v7 := .int .i64 _) (v8 := .int .u8 _) ent47 rfl rfl rfl rfl rfl rfl rfl rfl rfl <| Ret.det (R5ref_form _ _ _ _ _ _ _ _ _) hst fun w hst => CN (SO (v := .agg #[.int .u16 _, str _, .bool _, .bool _, str _, str _, .int .i64 _, .int .u8 _]) hst ty74 rfl rfl (.here) fun w hst => ?_)
   refine AB rfl <| NL <| run_ret2 Try.func35 rfl (RV.cellA (vs := [.int .u16 _, str _, .bool _, .bool _, str _, str _, .int .i64 _, .int .u8 _]) rfl ty74 rfl rfl (cells_of_obj (n := 8) (hst.objL (.head _)) _ rfl)) (TP (v := .bool _) rfl) ?_
   subst g80
   have e : refS 203 = some ⟨203, [79, 112, 66, 105, 116, 70, 105, 101, 108, 100, 85, 69, 120, 116, 114, 97, 99, 116], true, true, [105, 105, 105], [], 0, 8⟩ := by decide +kernel
   rw [e]
   exact ⟨rfl, hst.pure⟩
 refine SR <| CN <| Op1.eql rfl rfl <| AB rfl <| NL <| run_cond_dec rfl (fun g81 => ?_) (fun g81 => ?_)
 · skip
   refine SR <| MH rfl <| CN <| Op1.call8 (v1 := .int .u16 _) (v2 := str _) (v3 := .bool _) (v4 := .bool _) (v5 := str _) (v6 := str _) (v7 := .int .i64 _) (v8 := .int .u8 _) ent47 rfl rfl rfl rfl rfl rfl rfl rfl rfl <| Ret.det (R5ref_form _ _ _ _ _ _ _ _ _) hst fun w hst => CN (SO (v := .agg #[.int .u16 _, str _, .bool _, .bool _, str _, str _, .int .i64 _, .int .u8 _]) hst ty74 rfl rfl (.here) fun w hst => ?_)
   refine AB rfl <| NL <| run_ret2 Try.func35 rfl (RV.cellA (vs := [.int .u16 _, str _, .bool _, .bool _, str _, str _, .int .i64 _, .int .u8 _]) rfl ty74 rfl rfl (cells_of_obj (n := 8) (hst.objL (.head _)) _ rfl)) (TP (v := .bool _) rfl) ?_
   subst g81
   have e : refS 204 = some ⟨204, [79, 112, 66, 105, 116, 82, 101, 118, 101, 114, 115, 101], true, true, [105], [], 0, 8⟩ := by decide +kernel
   rw [e]
   exact ⟨rfl, hst.pure⟩
 refine SR <| CN <| Op1.eql rfl rfl <| AB rfl <| NL <| run_cond_dec rfl (fun g82 => ?_) (fun g82 => ?_)
 · skip
   refine SR <| MH rfl <| CN <| Op1.call8 (v1 := .int .u16 _) (v2 := str _) (v3 := .bool _) (v4 := .bool _) (v5 := str _) (v6 := str _) (v7 := .int .i64 _) (v8 := .int .u8 _) ent47 rfl rfl rfl rfl rfl rfl rfl rfl rfl <| Ret.det (R5ref_form _ _ _ _ _ _ _ _ _) hst fun w hst => CN (SO (v := .agg #[.int .u16 _, str _, .bool _, .bool _, str _, str _, .int .i64 _, .int .u8 _]) hst ty74 rfl rfl (.here) fun w hst => ?_)
   refine AB rfl <| NL <| run_ret2 Try.func35 rfl (RV.cellA (vs := [.int .u16 _, str _, .bool _, .bool _, str _, str _, .int .i64 _, .int .u8 _]) rfl ty74 rfl rfl (cells_of_obj (n := 8) (hst.objL (.head _)) _ rfl)) (TP (v := .bool _) rfl) ?_
   subst g82
   have e : refS 205 = some ⟨205, [79, 112, 66, 105, 116, 67, 111, 117, 110, 116], true, true, [105], [], 0, 8⟩ := by decide +kernel
   rw [e]
   exact ⟨rfl, hst.pure⟩
 refine SR <| CN <| Op1.eql rfl rfl <| AB rfl <| NL <| run_cond_dec rfl (fun g83 => ?_) (fun g83 => ?_)
 · skip
   refine SR <| MH rfl <| CN <| Op1.call8 (v1 := .int .u16 _) (v2 := str _) (v3 := .bool _) (v4 := .bool _) (v5 := str _) (v6 := str _) (v7 := .int .i64 _) (v8 := .int .u8 _) ent47 rfl rfl rfl rfl rfl rfl rfl rfl rfl <| Ret.det (R5ref_form _ _ _ _ _ _ _ _ _) hst fun w hst => CN (SO (v := .agg #[.int .u16 _, str _, .bool _, .bool _, str _, str _, .int .i64 _, .int .u8 _]) hst ty74 rfl rfl (.here) fun w hst => ?_)
   refine AB rfl <| NL <| run_ret2 Try.func35 rfl (RV.cellA (vs := [.int .u16 _, str _, .bool _, .bool _, str _, str _, .int .i64 _, .int .u8 _]) rfl ty74 rfl rfl (cells_of_obj (n := 8) (hst.objL (.head _)) _ rfl)) (TP (v := .bool _) rfl) ?_
   subst g83
   have e : refS 245 = some ⟨245, [79, 112, 80, 104, 105], true, true, [], [105, 105], 0, 8⟩ := by decide +kernel
   rw [e]
   exact ⟨rfl, hst.pure⟩
 refine SR <| CN <| Op1.eql rfl rfl <| AB rfl <| NL <| run_cond_dec rfl (fun g84 => ?_) (fun g84 => ?_)
 · skip
   refine SR <| MH rfl <| CN <| Op1.call8 (v1 := .int .u16 _) (v2 := str _) (v3 := .bool _) (v4 := .bool _) (v5 := str _) (v6 := str _) (v7 := .int .i64 _) (v8 := .int .u8 _) ent47 rfl rfl rfl rfl rfl rfl rfl rfl rfl <| Ret.det (R5ref_form _ _ _ _ _ _ _ _ _) hst fun w hst => CN (SO (v := .agg #[.int .u16 _, str _, .bool _, .bool _, str _, str _, .int .i64 _, .int .u8 _]) hst ty74 rfl rfl (.here) fun w hst => ?_)
   refine AB rfl <| NL <| run_ret2 Try.func35 rfl (RV.cellA (vs := [.int .u16 _, str _, .bool _, .bool _, str _, str _, .int .i64 _, .int .u8 _]) rfl ty74 rfl rfl (cells_of_obj (n := 8) (hst.objL (.head _)) _ rfl)) (TP (v := .bool _) rfl) ?_
   subst g84
   have e : refS 246 = some ⟨246, [79, 112, 76, 111, 111, 112, 77, 101, 114, 103, 101], false, false, [105, 105, 103], [], 0, 8⟩ := by decide +kernel
   rw [e]
   exact ⟨rfl, hst.pure⟩
 refine SR <| CN <| Op1.eql rfl rfl <| AB rfl <| NL <| run_cond_dec rfl (fun g85 => ?_) (fun g85 => ?_)
 · skip
   refine SR <| MH rfl <| CN <| Op1.call8 (v1 := .int .u16 _) (v2 := str _) (v3 := .bool _) (v4 := .bool _) (v5 := str _) (v6 := str _) (v7 := .int .i64 _) (v8 := .int .u8 _) ent47 rfl rfl rfl rfl rfl rfl rfl rfl rfl <| Ret.det (R5ref_form _ _ _ _ _ _ _ _ _) hst fun w hst => CN (SO (v := .agg #[.int .u16 _, str _, .bool _, .bool _, str _, str _, .int .i64 _, .int .u8 _]) hst ty74 rfl rfl (.here) fun w hst => ?_)
   refine AB rfl <| NL <| run_ret2 Try.func35 rfl (RV.cellA (vs := [.int .u16 _, str _, .bool _, .bool _, str _, str _, .int .i64 _, .int .u8 _]) rfl ty74 rfl rfl (cells_of_obj (n := 8) (hst.objL (.head _)) _ rfl)) (TP (v := .bool _) rfl) ?_
   subst g85
   have e : refS 247 = some ⟨247, [79, 112, 83, 101, 108, 101, 99, 116, 105, 111, 110, 77, 101, 114, 103, 101], false, false, [105, 104], [], 0, 8⟩ := by decide +kernel
   rw [e]
   exact ⟨rfl, hst.pure⟩
 refine SR <| CN <| Op1.eql rfl rfl <| AB rfl <| NL <| run_cond_dec rfl (fun g86 => ?_) (fun g86 => ?_)
 · skip
   refine SR <| MH rfl <| CN <| Op1.call8 (v1 := .int .u16 _) (v2 := str _) (v3 := .bool _) (v4 := .bool _) (v5 := str _) (v6 := str _) (v7 := .int .i64 _) (v8 := .int .u8 _) ent47 rfl rfl rfl rfl rfl rfl rfl rfl rfl <| Ret.det (R5ref_form _ _ _ _ _ _ _ _ _) hst fun w hst => CN (SO (v := .agg #[.int .u16 _, str _, .bool _, .bool _, str _, str _, .int .i64 _, .int .u8 _]) hst ty74 rfl rfl (.here) fun w hst => ?_)
   refine AB rfl <| NL <| run_ret2 Try.func35 rfl (RV.cellA (vs := [.int .u16 _, str _, .bool _, .bool _, str _, str _, .int .i64 _, .int .u8 _]) rfl ty74 rfl rfl (cells_of_obj (n := 8) (hst.objL (.head _)) _ rfl)) (TP (v := .bool _) rfl) ?_
   subst g86
   have e : refS 248 = some ⟨248, [79, 112, 76, 97, 98, 101, 108], false, true, [], [], 0, 8⟩ := by decide +kernel
   rw [e]
   exact ⟨rfl, hst.pure⟩
 refine SR <| CN <| Op1.eql rfl rfl <| AB rfl <| NL <| run_cond_dec rfl (fun g87 => ?_) (fun g87 => ?_)
 · skip
   refine SR <| MH rfl <| CN <| Op1.call8 (v1 := .int .u16 _) (v2 := str _) (v3 := .bool _) (v4 := .bool _) (v5 := str _) (v6 := str _) (v7 := .int .i64 _) (v8 := .int .u8 _) ent47 rfl rfl rfl rfl rfl rfl rfl rfl rfl <| Ret.det (R5ref_form _ _ _ _ _ _ _ _ _) hst fun w hst => CN (SO (v := .agg #[.int .u16 _, str _, .bool _, .bool _, str _, str _, .int .i64 _, .int .u8 _]) hst ty74 rfl rfl (.here) fun w hst => ?_)
   refine AB rfl <| NL <| run_ret2 Try.func35 rfl (RV.cellA (vs := [.int .u16 _, str _, .bool _, .bool _, str _, str _, .int .i64 _, .int .u8 _]) rfl ty74 rfl rfl (cells_of_obj (n := 8) (hst.objL (.head _)) _ rfl)) (TP (v := .bool _) rfl) ?_
   subst g87
   have e : refS 249 = some ⟨249, [79, 112, 66, 114, 97, 110, 99, 104], false, false, [105], [], 0, 8⟩ := by decide +kernel
   rw [e]
   exact ⟨rfl, hst.pure⟩
 refine SR <| CN <| Op1.eql rfl rfl <| AB rfl <| NL <| Run.forget [(0, .int .u16 _), (2, .pointer (some ⟨_, _, none⟩)), (4, .int .u16 _), (353, .bool _)] ⟨rfl, rfl, rfl, rfl, trivial⟩ fun f => run_cond_dec rfl (fun g88 => ?_) (fun g88 => ?_)
 · skip
   refine SR <| MH rfl <| CN <| Op1.call8 (v1 := .int .u16 _) (v2 := str _) (v3 := .bool _) (v4 := .bool _) (v5 := str _) (v6 := str _) (v7 := .int .i64 _) (v8 := .int .u8 _) ent47 rfl rfl rfl rfl rfl rfl rfl rfl rfl <| Ret.det (R5ref_form _ _ _ _ _ _ _ _ _) hst fun w hst => CN (SO (v := .agg #[.int .u16 _, str _, .bool _, .bool _, str _, str _, .int .i64 _, .int .u8 _]) hst ty74 rfl rfl (.here) fun w hst => ?_)
   refine AB rfl <| NL <| run_ret2 Try.func35 rfl (RV.cellA (vs := [.int .u16 _, str _, .bool _, .bool _, str _, str _, .int .i64 _, .int .u8 _]) rfl ty74 rfl rfl (cells_of_obj (n := 8) (hst.objL (.head _)) _ rfl)) (TP (v := .bool _) rfl) ?_
   subst g88
   have e : refS 250 = some ⟨250, [79, 112, 66, 114, 97, 110, 99, 104, 67, 111, 110, 100, 105, 116, 105, 111, 110, 97, 108], false, false, [105, 105, 105], [], 0, 8⟩ := by decide +kernel
   rw [e]
   exact ⟨rfl, hst.pure⟩
 refine SR <| CN <| Op1.eql rfl rfl <| AB rfl <| NL <| run_cond_dec rfl (fun g89 => ?_) (fun g89 => ?_)
 · skip
   refine SR <| MH rfl <| CN <| Op1.call8 (v1 := .int .u16 _) (v2 := str _) (v3 := .bool _) (v4 := .bool _) (v5 := str _) (v6 := str _) (v7 := .int .i64 _) (v8 := .int .u8 _) ent47 rfl rfl rfl rfl rfl rfl rfl rfl rfl <| Ret.det (R5ref_form _ _ _ _ _ _ _ _ _) hst fun w hst => CN (SO (v := .agg #[.int .u16 _, str _, .bool _, .bool _, str _, str _, .int .i64 _, .int .u8 _]) hst ty74 rfl rfl (.here) fun w hst => ?_)
   refine AB rfl <| NL <| run_ret2 Try.func35 rfl (RV.cellA (vs := [.int .u16 _, str _, .bool _, .bool _, str _, str _, .int .i64 _, .int .u8 _]) rfl ty74 rfl rfl (cells_of_obj (n := 8) (hst.objL (.head _)) _ rfl)) (TP (v := .bool _) rfl) ?_
   subst g89
   have e : refS 251 = some ⟨251, [79, 112, 83, 119, 105, 116, 99, 104], false, false, [105, 105], [110, 105], 0, 8⟩ := by decide +kernel
   rw [e]
   exact ⟨rfl, hst.pure⟩
 refine SR <| CN <| Op1.eql rfl rfl <| AB rfl <| NL <| run_cond_dec rfl (fun g90 => ?_) (fun g90 => ?_)
 · skip
   refine SR <| MH rfl <| CN <| Op1.call8 (v1 := .int .u16 _) (v2 := str _) (v3 := .bool _) (v4 := .bool _) (v5 := str _) (v6 := str _) (v7 := .int .i64 _) (v8 := .int .u8 _) ent47 rfl rfl rfl rfl rfl rfl rfl rfl rfl <| Ret.det (R5ref_form _ _ _ _ _ _ _ _ _) hst fun w hst => CN (SO (v := .agg #[.int .u16 _, str _, .bool _, .bool _, str _, str _, .int .i64 _, .int .u8 _]) hst ty74 rfl rfl (.here) fun w hst => ?_)
   refine AB rfl <| NL <| run_ret2 Try.func35 rfl (RV.cellA (vs := [.int .u16 _, str _, .bool _, .bool _, str _, str _, .int .i64 _, .int .u8 _]) rfl ty74 rfl rfl (cells_of_obj (n := 8) (hst.objL (.head _)) _ rfl)) (TP (v := .bool _) rfl) ?_
   subst g90
   have e : refS 252 = some ⟨252, [79, 112, 75, 105, 108, 108], false, false, [], [], 0, 8⟩ := by decide +kernel
   rw [e]
   exact ⟨rfl, hst.pure⟩
 refine SR <| CN <| Op1.eql rfl rfl <| AB rfl <| NL <| run_cond_dec rfl (fun g91 => ?_) (fun g91 => ?_)
 · skip
   refine SR <| MH rfl <| CN <| Op1.call8 (v1 := .int .u16 _) (v2 := str _) (v3 := .bool _) (v4 := .bool _) (v5 := str _) (v6 := str _) (v7 := .int .i64 _) (v8 := .int .u8 _) ent47 rfl rfl rfl rfl rfl rfl rfl rfl rfl <| Ret.det (R5ref_form _ _ _ _ _ _ _ _ _) hst fun w hst => CN (SO (v := .agg #[.int .u16 _, str _, .bool _, .bool _, str _, str _, .int .i64 _, .int .u8 _]) hst ty74 rfl rfl (.here) fun w hst => ?_)
   refine AB rfl <| NL <| run_ret2 Try.func35 rfl (RV.cellA (vs := [.int .u16 _, str _, .bool _, .bool _, str _, str _, .int .i64 _, .int .u8 _]) rfl ty74 rfl rfl (cells_of_obj (n := 8) (hst.objL (.head _)) _ rfl)) (TP (v := .bool _) rfl) ?_
   subst g91
   have e : refS 253 = some ⟨253, [79, 112, 82, 101, 116, 117, 114, 110], false, false, [], [], 0, 8⟩ := by decide +kernel
   rw [e]
   exact ⟨rfl, hst.pure⟩
 refine SR <| CN <| Op1.eql rfl rfl <| AB rfl <| NL <| run_cond_dec rfl (fun g92 => ?_) (fun g92 => ?_)
 · skip
   refine SR <| MH rfl <| CN <| Op1.call8 (v1 := .int .u16 _) (v2 := str _) (v3 := .bool _) (v4 := .bool _) (v5 := str _) (v6 := str _) (v7 := .int .i64 _) (v8 := .int .u8 _) ent47 rfl rfl rfl rfl rfl rfl rfl rfl rfl <| Ret.det (R5ref_form _ _ _ _ _ _ _ _ _) hst fun w hst => CN (SO (v := .agg #[.int .u16 _, str _, .bool _, .bool _, str _, str _, .int .i64 _, .int .u8 _]) hst ty74 rfl rfl (.here) fun w hst => ?_)
   refine AB rfl <| NL <| run_ret2 Try.func35 rfl (RV.cellA (vs := [.int .u16 _, str _, .bool _, .bool _, str _, str _, .int .i64 _, .int .u8 _]) rfl ty74 rfl rfl (cells_of_obj (n := 8) (hst.objL (.head _)) _ rfl)) (TP (v := .bool _) rfl) ?_
   subst g92
   have e : refS 254 = some ⟨254, [79, 112, 82, 101, 116, 117, 114, 110, 86, 97, 108, 117, 101], false, false, [105], [], 0, 8⟩ := by decide +kernel
   rw [e]
   exact ⟨rfl, hst.pure⟩
 refine SR <| CN <| Op1.eql rfl rfl <| AB rfl <| NL <| run_cond_dec rfl (fun g93 => ?_) (fun g93 => ?_)
 · skip
   refine SR <| MH rfl <| CN <| Op1.call8 (v1 := .int .u16 _) (v2 := str _) (v3 := .bool _) (v4 := .bool _) (v5 := str _) (v6 := str _) (v7 := .int .i64 _) (v8 := .int .u8 _) ent47 rfl rfl rfl rfl rfl rfl rfl rfl rfl <| Ret.det (R5ref_form _ _ _ _ _ _ _ _ _) hst fun w hst => CN (SO (v := .agg #[.int .u16 _, str _, .bool _, .bool _, str _, str _, .int .i64 _, .int .u8 _]) hst ty74 rfl rfl (.here) fun w hst => ?_)
   refine AB rfl <| NL <| run_ret2 Try.func35 rfl (RV.cellA (vs := [.int .u16 _, str _, .bool _, .bool _, str _, str _, .int .i64 _, .int .u8 _]) rfl ty74 rfl rfl (cells_of_obj (n := 8) (hst.objL (.head _)) _ rfl)) (TP (v := .bool _) rfl) ?_
   subst g93
   have e : refS 255 = some ⟨255, [79, 112, 85, 110, 114, 101, 97, 99, 104, 97, 98, 108, 101], false, false, [], [], 0, 8⟩ := by decide +kernel
   rw [e]
   exact ⟨rfl, hst.pure⟩
 refine run_skip <| run_inBlock <| SR <| CN (Op1.buildStruct ty74 stf74 .nil ?_)
 refine CN (SO (v := .agg #[.int .u16 _, str _, .bool _, .bool _, str _, str _, .int .i64 _, .int .u8 _]) hst ty74 rfl rfl (.here) fun w hst => ?_)
 refine AB rfl <| NL <| run_ret2 Try.func35 rfl (RV.cellA (vs := [.int .u16 _, str _, .bool _, .bool _, str _, str _, .int .i64 _, .int .u8 _]) rfl ty74 rfl rfl (cells_of_obj (n := 8) (hst.objL (.head _)) _ rfl)) (TP (v := .bool _) rfl) ?_
 rw [show refS op = none from refF_none (by simp only [refT, List.forall_mem_cons]; exact ⟨g1, g2, g3, g4, g5, g6, g7, g8, g9, g10, g11, g12, g13, g14, g15, g16, g17, g18, g19, g20, g21, g22, g23, g24, g25, g26, g27, g28, g29, g30, g31, g32, g33, g34, g35, g36, g37, g38, g39, g40, g41, g42, g43, g44, g45, g46, g47, g48, g49, g50, g51, g52, g53, g54, g55, g56, g57, g58, g59, g60, g61, g62, g63, g64, g65, g66, g67, g68, g69, g70, g71, g72, g73, g74, g75, g76, g77, g78, g79, g80, g81, g82, g83, g84, g85, g86, g87, g88, g89, g90, g91, g92, g93, fun _ h => absurd h List.not_mem_nil⟩)]
 exact ⟨rfl, hst.pure⟩
theorem R5gr_Of (op : Int) (h0 : 0 ≤ op) (w : World) : Ret Try.prog 58 #[.int .u16 op] w (fun v w' => v = formV (refS op) ∧ St w NoM [] [] w') := by
 refine Ret.enter (args := [.int .u16 op]) Try.func58 rfl rfl rfl ?_
 have hst := St.init w
 refine SR <| CN <| Op1.alloc hst ty74 fun w b2 hst => AB rfl <| NSR <| MH rfl <| CN <| Op1.call1 (v1 := .int .u16 _) ent64 rfl rfl <| Ret.det (R5gr_row _ _) hst fun w hst => AS rfl <| NL <| SQ <| SR <| MS rfl ?_
 refine CN <| Op1.eqlS rfl rfl <| NL <| run_cond_dec rfl (fun g1 => ?_) (fun g1 => ?_)
 · skip
   have hemp := g1
   refine SR <| CN (Op1.buildStruct ty74 stf74 .nil ?_)
   refine CN (SO (v := .agg #[.int .u16 _, str _, .bool _, .bool _, str _, str _, .int .i64 _, .int .u8 _]) hst ty74 rfl rfl (.here) fun w hst => ?_)
   refine AB rfl <| NL <| run_ret2 Try.func58 rfl (RV.cellA (vs := [.int .u16 _, str _, .bool _, .bool _, str _, str _, .int .i64 _, .int .u8 _]) rfl ty74 rfl rfl (cells_of_obj (n := 8) (hst.objL (.head _)) _ rfl)) (TP (v := .bool _) rfl) ?_
   rw [← (rowS_all h0).2]
   have e : ofS op = none := by unfold ofS; rw [if_pos hemp]
   rw [e]
   exact ⟨rfl, hst.pure⟩
 have hemp := g1
 obtain ⟨fd0, fd1, fd2, fd3, fd4, fd5, hf⟩ := R5six (fieldsF_len (rowS op))
 replace hf : fieldsS (rowS op) = [fd0, fd1, fd2, fd3, fd4, fd5] := hf
 obtain ⟨_, _, _, hfa, hf5⟩ := rowOk_spec (rowS_all h0).1
 rw [hf] at hfa hf5
 replace hf5 : 0 < fd5.length := List.length_pos_iff.2 (hf5.resolve_left hemp)
 have hasc : ∀ c ∈ fd1, c.toNat < 128 := hfa fd1 (by simp)
 refine run_skip <| SR <| MS rfl <| CN <| Op1.call1 (v1 := str _) ent65 rfl rfl <| Ret.det (R5gr_fields _ _ _ _ _ _ _ (rowS_all h0).1 hf _) hst fun w hst => CN <| Op1.alloc hst ty118 fun w b5 hst => CN (SO (v := .agg #[str _, str _, str _, str _, str _, str _]) hst ty118 rfl rfl (.here) fun w hst => ?_)
 refine NL <| SQ <| RunD.start [] hst (bs := [0, 0, 2, 0, 8, 0, 32, 0, 128, 384, 896, 2047, 0, 8191]) (ds := [some 16, some 17, some 18, some 19, some 20, some 21, some 22, some 23, some 24, some 25, some 26, some 27, some 6, none]) ⟨by kernel_rfl, by kernel_rfl, by kernel_rfl⟩ (fun tab2 => ?_)
 refine RunD.op (det _) tab2 1 (fun f' L' w' hc => Op1.move (v := .int .u16 _) (hc.old (v := .int .u16 _) rfl rfl rfl) ⟨[], ⟨rfl, rfl⟩, hc.st⟩) <| RunD.op (det _) tab2 2 (fun f' L' w' hc => Op1.indexArr ty118 ty9 (hc.old (v := .pointer (some ⟨_, _, none⟩)) rfl rfl rfl) rfl (by decide) (by decide) ⟨[], ⟨rfl, rfl⟩, hc.st⟩) <| RunD.op (det _) tab2 3 (fun f' L' w' hc => Op1.load1 (v := str _) ty9 rfl (hc.det (j := 1) rfl rfl rfl rfl) (hc.st.cellL (List.mem_append_right _ (.head _)) rfl) ⟨[], ⟨rfl, rfl⟩, hc.st⟩) <| RunD.op (det _) tab2 4 (fun f' L' w' hc => Op1.indexArr ty118 ty9 (hc.old (v := .pointer (some ⟨_, _, none⟩)) rfl rfl rfl) rfl (by decide) (by decide) ⟨[], ⟨rfl, rfl⟩, hc.st⟩) <| RunD.op (det _) tab2 5 (fun f' L' w' hc => Op1.load1 (v := str _) ty9 rfl (hc.det (j := 3) rfl rfl rfl rfl) (hc.st.cellL (List.mem_append_right _ (.head _)) rfl) ⟨[], ⟨rfl, rfl⟩, hc.st⟩) <| RunD.op (det _) tab2 6 (fun f' L' w' hc => Op1.indexArr ty118 ty9 (hc.old (v := .pointer (some ⟨_, _, none⟩)) rfl rfl rfl) rfl (by decide) (by decide) ⟨[], ⟨rfl, rfl⟩, hc.st⟩) <| RunD.op (det _) tab2 7 (fun f' L' w' hc => Op1.load1 (v := str _) ty9 rfl (hc.det (j := 5) rfl rfl rfl rfl) (hc.st.cellL (List.mem_append_right _ (.head _)) rfl) ⟨[], ⟨rfl, rfl⟩, hc.st⟩) <| RunD.op (det _) tab2 8 (fun f' L' w' hc => Op1.indexArr ty118 ty9 (hc.old (v := .pointer (some ⟨_, _, none⟩)) rfl rfl rfl) rfl (by decide) (by decide) ⟨[], ⟨rfl, rfl⟩, hc.st⟩) <| RunD.op (det _) tab2 9 (fun f' L' w' hc => Op1.load1 (v := str _) ty9 rfl (hc.det (j := 7) rfl rfl rfl rfl) (hc.st.cellL (List.mem_append_right _ (.head _)) rfl) ⟨[], ⟨rfl, rfl⟩, hc.st⟩) <| RunD.op (det _) tab2 10 (fun f' L' w' hc => Op1.indexS ty9 (hc.det (j := 8) rfl rfl rfl rfl) rfl (by omega) (by omega) ⟨[], ⟨rfl, rfl⟩, hc.st⟩) <| RunD.op (det _) tab2 11 (fun f' L' w' hc => Op1.sub (hc.det (j := 9) rfl rfl rfl rfl) rfl ⟨[], ⟨rfl, rfl⟩, hc.st⟩) <| RunD.op (det _) tab2 12 (fun f' L' w' hc => Op1.buildStruct ty74 stf74 (.c (v := .int .u16 _) (hc.det (j := 0) rfl rfl rfl rfl) (h := (.c (v := str _) (hc.det (j := 2) rfl rfl rfl rfl) (h := (.c (v := str _) (hc.det (j := 4) rfl rfl rfl rfl) (h := (.c (v := str _) (hc.det (j := 6) rfl rfl rfl rfl) (h := (.c (v := .int .u8 _) (hc.det (j := 10) rfl rfl rfl rfl) (h := .nil)))))))))) ⟨[], ⟨rfl, rfl⟩, hc.st⟩) ?_
 refine RunD.op (fun v rs => ∃ b, v = .pointer (some ⟨b, 0, none⟩) ∧ rs = [Res.row b 74 [.int .u16 0, str [], .bool false, .bool false, str [], str [], .int .i64 0, .int .u8 0]]) tab2 13 (fun f' L' w' hc => Op1.alloc hc.st ty74 fun w b hst => ⟨[_], ⟨b, rfl, rfl⟩, hst⟩) <| RunD.fin followsMixed tab2 hst rfl (fun f3 w R6 hs4 hd5 hr7 hst => ?_)
 obtain ⟨h16_, r0⟩ := hd5 0 16 rfl rfl
 obtain ⟨h17_, r1⟩ := hd5 1 17 rfl rfl
 obtain ⟨h18_, r2⟩ := hd5 2 18 rfl rfl
 obtain ⟨h19_, r3⟩ := hd5 3 19 rfl rfl
 obtain ⟨h20_, r4⟩ := hd5 4 20 rfl rfl
 obtain ⟨h21_, r5⟩ := hd5 5 21 rfl rfl
 obtain ⟨h22_, r6⟩ := hd5 6 22 rfl rfl
 obtain ⟨h23_, r7⟩ := hd5 7 23 rfl rfl
 obtain ⟨h24_, r8⟩ := hd5 8 24 rfl rfl
 obtain ⟨h25_, r9⟩ := hd5 9 25 rfl rfl
 obtain ⟨h26_, r10⟩ := hd5 10 26 rfl rfl
 obtain ⟨h27_, r11⟩ := hd5 11 27 rfl rfl
 obtain ⟨b6, h6_, r12⟩ := hd5 12 6 rfl rfl
 simp only [show List.range 13 = [0, 1, 2, 3, 4, 5, 6, 7, 8, 9, 10, 11, 12] from rfl, List.flatMap_cons, List.flatMap_nil, List.map_cons, List.map_nil, r0, r1, r2, r3, r4, r5, r6, r7, r8, r9, r10, r11, r12, List.nil_append, List.append_nil, List.cons_append] at hst
 refine RunL.slots (sl := [(2, .pointer (some ⟨_, _, none⟩)), (5, .pointer (some ⟨_, _, none⟩)), (6, .pointer (some ⟨_, _, none⟩)), (27, .agg #[.int .u16 _, str _, .bool _, .bool _, str _, str _, .int .i64 _, .int .u8 _])]) ⟨(hs4 2 rfl).trans rfl, (hs4 5 rfl).trans rfl, h6_, h27_, trivial⟩ ?_
 clear hs4 hd5 hr7 tab2
 refine CN (SO (v := .agg #[.int .u16 _, str _, .bool _, .bool _, str _, str _, .int .i64 _, .int .u8 _]) hst ty74 rfl rfl (.here) fun w hst => ?_)
 refine NL <| Run.forget [(2, .pointer (some ⟨_, _, none⟩)), (5, .pointer (some ⟨_, _, none⟩)), (6, .pointer (some ⟨_, _, none⟩))] ⟨rfl, rfl, rfl, trivial⟩ fun f => SQ <| SR <| CN <| Op1.indexArr ty118 ty9 rfl rfl (by decide) (by decide) <| CN <| Op1.load1 (v := str _) ty9 rfl rfl (hst.cellL (.tail _ (.head _)) rfl) <| CN <| Op1.rangeS hst ty9 rfl fun w it30 hst => NL <| run_block <| run_loop <| Run.indW [(2, .pointer (some ⟨_, _, none⟩)), (5, .pointer (some ⟨_, _, none⟩)), (6, .pointer (some ⟨_, _, none⟩)), (30, .pointer (some ⟨_, 0, none⟩))] ⟨rfl, rfl, rfl, rfl, trivial⟩ (fun (i : Nat) => []) (fun (i : Nat) => [Res.iter it30 fd1 i, Res.row b6 74 [.int .u16 op, str fd0, .bool ((fd1.take i).contains 84), .bool ((fd1.take i).contains 82), str fd2, str fd3, .int .i64 0, .int .u8 (subU8 (fd5.getD 0 0) 48)]]) (fun (i : Nat) => i ≤ fd1.length) (fun (i : Nat) => fd1.length - i) (0) hst (Nat.zero_le _) trivial ?_
 intro i f w hst hJ ih8
 refine SQ <| RG ?_
 rcases Nat.lt_or_ge i fd1.length with g9 | g9
 · skip
   have hc := hasc _ (List.getElem_mem g9)
   refine CN (Op1.nextS hst rfl (.here) (List.getElem?_eq_getElem g9) (hc) fun w hst => ?_)
   refine CN <| Op1.extract (v := .bool _) rfl rfl <| NL <| SQ <| run_cond_true (congrArg Value.bool (rfl : true = _)) <| run_skip <| run_block <| SR <| CN <| Op1.extract (v := .int .i32 _) rfl rfl <| CN <| Op1.assign (v := .int .i32 _) rfl <| NSR <| CN <| Op1.fieldAddr fld74_2 rfl <| CN (Op1.load1 (v := .bool _) ty4 rfl rfl (hst.cellL (.tail _ (.head _)) rfl) ?_)
   refine MB rfl <| RunL.split (d := 36) rfl (fun g10 => ?_) (fun g10 => ?_)
   · skip
     refine OM (t := 36) rfl (congrArg Value.bool g10) rfl <| OM (t := 36) rfl (congrArg Value.bool g10) rfl <| CN <| Op1.pickT (u := .bool _) (congrArg Value.bool g10) rfl <| CN <| Op1.fieldAddr fld74_2 rfl <| CN (SO (v := .bool _) hst ty4 rfl rfl (.there (.here)) fun w hst => ?_)
     refine NR <| CN <| Op1.fieldAddr fld74_3 rfl <| CN <| Op1.load1 (v := .bool _) ty4 rfl rfl (hst.cellL (.tail _ (.head _)) rfl) <| MB rfl <| RunL.split (d := 43) rfl (fun g11 => ?_) (fun g11 => ?_)
     · skip
       refine OM (t := 43) rfl (congrArg Value.bool g11) rfl <| OM (t := 43) rfl (congrArg Value.bool g11) rfl <| CN <| Op1.pickT (u := .bool _) (congrArg Value.bool g11) rfl <| CN <| Op1.fieldAddr fld74_3 rfl <| CN (SO (v := .bool _) hst ty4 rfl rfl (.there (.here)) fun w hst => ?_)
       refine NL <| run_inBlock <| run_inLoop ?_
       exact ih8 (i + 1) _ w (by omega) (by (try dsimp only); rw [has_step 84 (m := 84) rfl g9, has_step 82 (m := 82) rfl g9]; simp only [g10, g11, Bool.true_or, Bool.false_or]; exact hst) (by omega) ⟨rfl, rfl, rfl, rfl, trivial⟩ trivial
     refine TK (t := 43) rfl (congrArg Value.bool g11) <| Op1.move (v := .int .i32 _) rfl <| TK (t := 43) rfl (congrArg Value.bool g11) <| Op1.eql rfl rfl <| CN <| Op1.pickF (u := .bool _) (congrArg Value.bool g11) rfl <| CN <| Op1.fieldAddr fld74_3 rfl <| CN (SO (v := .bool _) hst ty4 rfl rfl (.there (.here)) fun w hst => ?_)
     refine NL <| run_inBlock <| run_inLoop ?_
     exact ih8 (i + 1) _ w (by omega) (by (try dsimp only); rw [has_step 84 (m := 84) rfl g9, has_step 82 (m := 82) rfl g9]; simp only [g10, g11, Bool.true_or, Bool.false_or]; exact hst) (by omega) ⟨rfl, rfl, rfl, rfl, trivial⟩ trivial
   refine TK (t := 36) rfl (congrArg Value.bool g10) <| Op1.move (v := .int .i32 _) rfl <| TK (t := 36) rfl (congrArg Value.bool g10) <| Op1.eql rfl rfl <| CN <| Op1.pickF (u := .bool _) (congrArg Value.bool g10) rfl <| CN <| Op1.fieldAddr fld74_2 rfl <| CN (SO (v := .bool _) hst ty4 rfl rfl (.there (.here)) fun w hst => ?_)
   refine NR <| CN <| Op1.fieldAddr fld74_3 rfl <| CN <| Op1.load1 (v := .bool _) ty4 rfl rfl (hst.cellL (.tail _ (.head _)) rfl) <| MB rfl <| RunL.split (d := 43) rfl (fun g12 => ?_) (fun g12 => ?_)
   · skip
     refine OM (t := 43) rfl (congrArg Value.bool g12) rfl <| OM (t := 43) rfl (congrArg Value.bool g12) rfl <| CN <| Op1.pickT (u := .bool _) (congrArg Value.bool g12) rfl <| CN <| Op1.fieldAddr fld74_3 rfl <| CN (SO (v := .bool _) hst ty4 rfl rfl (.there (.here)) fun w hst => ?_)
     refine NL <| run_inBlock <| run_inLoop ?_
     exact ih8 (i + 1) _ w (by omega) (by (try dsimp only); rw [has_step 84 (m := 84) rfl g9, has_step 82 (m := 82) rfl g9]; simp only [g10, g12, Bool.true_or, Bool.false_or]; exact hst) (by omega) ⟨rfl, rfl, rfl, rfl, trivial⟩ trivial
   refine TK (t := 43) rfl (congrArg Value.bool g12) <| Op1.move (v := .int .i32 _) rfl <| TK (t := 43) rfl (congrArg Value.bool g12) <| Op1.eql rfl rfl <| CN <| Op1.pickF (u := .bool _) (congrArg Value.bool g12) rfl <| CN <| Op1.fieldAddr fld74_3 rfl <| CN (SO (v := .bool _) hst ty4 rfl rfl (.there (.here)) fun w hst => ?_)
   refine NL <| run_inBlock <| run_inLoop ?_
   exact ih8 (i + 1) _ w (by omega) (by (try dsimp only); rw [has_step 84 (m := 84) rfl g9, has_step 82 (m := 82) rfl g9]; simp only [g10, g12, Bool.true_or, Bool.false_or]; exact hst) (by omega) ⟨rfl, rfl, rfl, rfl, trivial⟩ trivial
 obtain rfl : i = fd1.length := by omega
 rw [List.take_length] at hst
 refine CN <| Op1.nextE hst rfl (.head _) g9 <| CN <| Op1.extract (v := .bool _) rfl rfl <| NL <| SQ <| run_cond_false (congrArg Value.bool (rfl : false = _)) <| run_exit (id := 0) rfl <| SQ <| SR <| CN <| Op1.indexArr ty118 ty9 rfl rfl (by decide) (by decide) <| CN <| Op1.load1 (v := str _) ty9 rfl rfl (hst.cellL (.tail _ (.tail _ (.head _))) rfl) <| CN <| Op1.neqS rfl rfl <| NL <| run_cond_dec rfl (fun g13 => ?_) (fun g13 => ?_)
 · skip
   have hf4 : 0 < fd4.length := List.length_pos_iff.2 g13
   have hwb := u8wrap_bd ((((fd4.getD (0 : Int).toNat 0).toNat : Nat) : Int) - 48)
   refine RG <| CN <| Op1.indexArr ty118 ty9 rfl rfl (by decide) (by decide) <| CN <| Op1.load1 (v := str _) ty9 rfl rfl (hst.cellL (.tail _ (.tail _ (.head _))) rfl) <| CN <| Op1.indexS ty9 rfl rfl (by omega) (by omega) <| CN (Op1.sub rfl rfl ?_)
   first | refine CN (Op1.convN ty5 ty3 rfl (wrap_i64 (by omega) (by omega)) ?_) | refine CN (Op1.conv ty5 ty3 rfl ?_)
   refine CN <| Op1.fieldAddr fld74_6 rfl <| CN (SO (v := .int .i64 _) hst ty3 rfl rfl (.there (.here)) fun w hst => ?_)
   refine NSR <| CN <| Op1.loadA (vs := [.int .u16 _, str _, .bool _, .bool _, str _, str _, .int .i64 _, .int .u8 _]) ty74 rfl rfl rfl (cells_of_obj (n := 8) (hst.objL (.tail _ (.head _))) _ rfl) <| CN (SO (v := .agg #[.int .u16 _, str _, .bool _, .bool _, str _, str _, .int .i64 _, .int .u8 _]) hst ty74 rfl rfl (.there (.there (.there (.here)))) fun w hst => ?_)
   refine AB rfl <| NL <| run_ret2 Try.func58 rfl (RV.cellA (vs := [.int .u16 _, str _, .bool _, .bool _, str _, str _, .int .i64 _, .int .u8 _]) rfl ty74 rfl rfl (cells_of_obj (n := 8) (hst.objL (.tail _ (.tail _ (.tail _ (.head _))))) _ rfl)) (TP (v := .bool _) rfl) ?_
   rw [← (rowS_all h0).2]
   have e : ofS op = some (FormL.mk op fd0 (fd1.contains 84) (fd1.contains 82) fd2 fd3 (subU8 (fd4.getD 0 0) 48) (subU8 (fd5.getD 0 0) 48)) := by
     unfold ofS
     rw [if_neg hemp, hf]
     show some (FormL.mk op fd0 (fd1.contains 84) (fd1.contains 82) fd2 fd3 (if fd4 = [] then 0 else subU8 (fd4.getD 0 0) 48) (subU8 (fd5.getD 0 0) 48)) = _
     rw [if_neg g13]
   rw [e]
   exact ⟨rfl, hst.pure⟩
 refine run_skip <| SR <| CN <| Op1.loadA (vs := [.int .u16 _, str _, .bool _, .bool _, str _, str _, .int .i64 _, .int .u8 _]) ty74 rfl rfl rfl (cells_of_obj (n := 8) (hst.objL (.tail _ (.head _))) _ rfl) <| CN (SO (v := .agg #[.int .u16 _, str _, .bool _, .bool _, str _, str _, .int .i64 _, .int .u8 _]) hst ty74 rfl rfl (.there (.there (.there (.here)))) fun w hst => ?_)
 refine AB rfl <| NL <| run_ret2 Try.func58 rfl (RV.cellA (vs := [.int .u16 _, str _, .bool _, .bool _, str _, str _, .int .i64 _, .int .u8 _]) rfl ty74 rfl rfl (cells_of_obj (n := 8) (hst.objL (.tail _ (.tail _ (.tail _ (.head _))))) _ rfl)) (TP (v := .bool _) rfl) ?_
 rw [← (rowS_all h0).2]
 have e : ofS op = some (FormL.mk op fd0 (fd1.contains 84) (fd1.contains 82) fd2 fd3 0 (subU8 (fd5.getD 0 0) 48)) := by
   unfold ofS
   rw [if_neg hemp, hf]
   show some (FormL.mk op fd0 (fd1.contains 84) (fd1.contains 82) fd2 fd3 (if fd4 = [] then 0 else subU8 (fd4.getD 0 0) 48) (subU8 (fd5.getD 0 0) 48)) = _
   rw [if_pos (Classical.not_not.1 g13)]
 rw [e]
 exact ⟨rfl, hst.pure⟩
end Go.SK
namespace Go.SK
open Go Go.Proofs
theorem ty116 : TyF Try.prog 116 (.struct (fieldsOf Try.prog 116)) 3 24 [.int .u8 0, .int .u32 0, str []] := TyF.of (by kernel_rfl) (by kernel_rfl)
theorem stf116 : StructF Try.prog 116 [(0, 1), (1, 1), (2, 1)] := ⟨fieldsOf Try.prog 116, by kernel_rfl, fun w => by kernel_rfl⟩
theorem ty113 : TyF Try.prog 113 (.slice 116) 1 24 [.slice none 0 0] := TyF.of (by kernel_rfl) (by kernel_rfl)
theorem ent63 : Enters Try.prog 63 := ⟨Try.f63, _, Try.func63, by kernel_rfl, rfl⟩
theorem fld116_0 : FldF Try.prog 116 0 0 := FldF.of (n := 0) (by kernel_rfl)
theorem fld116_1 : FldF Try.prog 116 1 1 := FldF.of (n := 0) (by kernel_rfl)
theorem fld116_2 : FldF Try.prog 116 2 2 := FldF.of (n := 0) (by kernel_rfl)
theorem ent77 : Enters Try.prog 77 := ⟨Try.f77, _, Try.func77, by kernel_rfl, rfl⟩
theorem ent88 : Enters Try.prog 88 := ⟨Try.f88, _, Try.func88, by kernel_rfl, rfl⟩
end Go.SK
namespace Go.SK
open Go Go.Proofs
open Go.RowKit
set_option maxRecDepth 4000 in
theorem R5ref_Names  (w : World) : Ret Try.prog 63 #[] w (fun v w' => ∃ ao cp, v = .slice ao namesL.length cp ∧ St w NoM [Res.sl ao namesL.length cp 116 3 (namesL.flatMap nameC)] [] w') := by
 refine Ret.enter (args := []) Try.func63 rfl rfl rfl ?_
 have hst := St.init w
 refine SR <| AL rfl <| NSR <| AL rfl <| NSR <| ML rfl <| CN (Op1.buildStruct ty116 stf116 (.c (v := .int .u8 _) rfl (h := (.c (v := .int .u32 _) rfl (h := (.c (v := str _) rfl (h := .nil)))))) ?_)
 refine CN (Op1.buildSl (z0 := [.int .u8 0, .int .u32 0, str []]) hst ty113 ty116 rfl rfl (by kernel_rfl) (.c (v := .agg #[.int .u8 _, .int .u32 _, str _]) rfl (h := .nil)) fun w b4 hst => ?_)
 replace hst := hst.pushNil 116 3
 refine CN (Op1.append (news := [.int .u8 _, .int .u32 _, str _]) hst ty113 ty116 rfl rfl (.here) rfl rfl rfl (cells_of_obj (n := 3) (hst.objL (.tail _ (.head _))) _ rfl) rfl rfl (by omega) fun w ao1 cp2 hst => ?_)
 replace hst := hst.drop (.there (.here))
 refine AL rfl <| NSR <| ML rfl <| CN (Op1.buildStruct ty116 stf116 (.c (v := .int .u8 _) rfl (h := (.c (v := .int .u32 _) rfl (h := (.c (v := str _) rfl (h := .nil)))))) ?_)
 refine CN (Op1.buildSl (z0 := [.int .u8 0, .int .u32 0, str []]) hst ty113 ty116 rfl rfl (by kernel_rfl) (.c (v := .agg #[.int .u8 _, .int .u32 _, str _]) rfl (h := .nil)) fun w b8 hst => ?_)
 refine CN (Op1.append (news := [.int .u8 _, .int .u32 _, str _]) hst ty113 ty116 rfl rfl (.there (.here)) rfl rfl rfl (cells_of_obj (n := 3) (hst.objL (.head _)) _ rfl) rfl rfl (by omega) fun w ao3 cp4 hst => ?_)
 replace hst := hst.drop (.there (.here))
 refine AL rfl <| NSR <| ML rfl <| CN (Op1.buildStruct ty116 stf116 (.c (v := .int .u8 _) rfl (h := (.c (v := .int .u32 _) rfl (h := (.c (v := str _) rfl (h := .nil)))))) ?_)
 refine CN (Op1.buildSl (z0 := [.int .u8 0, .int .u32 0, str []]) hst ty113 ty116 rfl rfl (by kernel_rfl) (.c (v := .agg #[.int .u8 _, .int .u32 _, str _]) rfl (h := .nil)) fun w b12 hst => ?_)
 refine CN (Op1.append (news := [.int .u8 _, .int .u32 _, str _]) hst ty113 ty116 rfl rfl (.there (.here)) rfl rfl rfl (cells_of_obj (n := 3) (hst.objL (.head _)) _ rfl) rfl rfl (by omega) fun w ao5 cp6 hst => ?_)
 replace hst := hst.drop (.there (.here))
 refine AL rfl <| NSR <| ML rfl <| CN (Op1.buildStruct ty116 stf116 (.c (v := .int .u8 _) rfl (h := (.c (v := .int .u32 _) rfl (h := (.c (v := str _) rfl (h := .nil)))))) ?_)
 refine CN (Op1.buildSl (z0 := [.int .u8 0, .int .u32 0, str []]) hst ty113 ty116 rfl rfl (by kernel_rfl) (.c (v := .agg #[.int .u8 _, .int .u32 _, str _]) rfl (h := .nil)) fun w b16 hst => ?_)
 refine CN (Op1.append (news := [.int .u8 _, .int .u32 _, str _]) hst ty113 ty116 rfl rfl (.there (.here)) rfl rfl rfl (cells_of_obj (n := 3) (hst.objL (.head _)) _ rfl) rfl rfl (by omega) fun w ao7 cp8 hst => ?_)
 replace hst := hst.drop (.there (.here))
 refine AL rfl <| NL <| Run.forget [(1, .slice _ _ _)] ⟨rfl, trivial⟩ fun f => SR <| ML rfl <| CN (Op1.buildStruct ty116 stf116 (.c (v := .int .u8 _) rfl (h := (.c (v := .int .u32 _) rfl (h := (.c (v := str _) rfl (h := .nil)))))) ?_)
 refine CN (Op1.buildSl (z0 := [.int .u8 0, .int .u32 0, str []]) hst ty113 ty116 rfl rfl (by kernel_rfl) (.c (v := .agg #[.int .u8 _, .int .u32 _, str _]) rfl (h := .nil)) fun w b20 hst => ?_)
 refine CN (Op1.append (news := [.int .u8 _, .int .u32 _, str _]) hst ty113 ty116 rfl rfl (.there (.here)) rfl rfl rfl (cells_of_obj (n := 3) (hst.objL (.head _)) _ rfl) rfl rfl (by omega) fun w ao9 cp10 hst => ?_)
 replace hst := hst.drop (.there (.here))
 refine AL rfl <| NSR <| ML rfl <| CN (Op1.buildStruct ty116 stf116 (.c (v := .int .u8 _) rfl (h := (.c (v := .int .u32 _) rfl (h := (.c (v := str _) rfl (h := .nil)))))) ?_)
 refine CN (Op1.buildSl (z0 := [.int .u8 0, .int .u32 0, str []]) hst ty113 ty116 rfl rfl (by kernel_rfl) (.c (v := .agg #[.int .u8 _, .int .u32 _, str _]) rfl (h := .nil)) fun w b24 hst => ?_)
 refine CN (Op1.append (news := [.int .u8 _, .int .u32 _, str _]) hst ty113 ty116 rfl rfl (.there (.here)) rfl rfl rfl (cells_of_obj (n := 3) (hst.objL (.head _)) _ rfl) rfl rfl (by omega) fun w ao11 cp12 hst => ?_)
 replace hst := hst.drop (.there (.here))
 refine AL rfl <| NSR <| ML rfl <| CN (Op1.buildStruct ty116 stf116 (.c (v := .int .u8 _) rfl (h := (.c (v := .int .u32 _) rfl (h := (.c (v := str _) rfl (h := .nil)))))) ?_)
 refine CN (Op1.buildSl (z0 := [.int .u8 0, .int .u32 0, str []]) hst ty113 ty116 rfl rfl (by kernel_rfl) (.c (v := .agg #[.int .u8 _, .int .u32 _, str _]) rfl (h := .nil)) fun w b28 hst => ?_)
 refine CN (Op1.append (news := [.int .u8 _, .int .u32 _, str _]) hst ty113 ty116 rfl rfl (.there (.here)) rfl rfl rfl (cells_of_obj (n := 3) (hst.objL (.head _)) _ rfl) rfl rfl (by omega) fun w ao13 cp14 hst => ?_)
 replace hst := hst.drop (.there (.here))
 refine AL rfl <| NSR <| ML rfl <| CN (Op1.buildStruct ty116 stf116 (.c (v := .int .u8 _) rfl (h := (.c (v := .int .u32 _) rfl (h := (.c (v := str _) rfl (h := .nil)))))) ?_)
 refine CN (Op1.buildSl (z0 := [.int .u8 0, .int .u32 0, str []]) hst ty113 ty116 rfl rfl (by kernel_rfl) (.c (v := .agg #[.int .u8 _, .int .u32 _, str _]) rfl (h := .nil)) fun w b32 hst => ?_)
 refine CN (Op1.append (news := [.int .u8 _, .int .u32 _, str _]) hst ty113 ty116 rfl rfl (.there (.here)) rfl rfl rfl (cells_of_obj (n := 3) (hst.objL (.head _)) _ rfl) rfl rfl (by omega) fun w ao15 cp16 hst => ?_)
 replace hst := hst.drop (.there (.here))
 refine AL rfl <| NL <| Run.forget [(1, .slice _ _ _)] ⟨rfl, trivial⟩ fun f => SR <| ML rfl <| CN (Op1.buildStruct ty116 stf116 (.c (v := .int .u8 _) rfl (h := (.c (v := .int .u32 _) rfl (h := (.c (v := str _) rfl (h := .nil)))))) ?_)
 refine CN (Op1.buildSl (z0 := [.int .u8 0, .int .u32 0, str []]) hst ty113 ty116 rfl rfl (by kernel_rfl) (.c (v := .agg #[.int .u8 _, .int .u32 _, str _]) rfl (h := .nil)) fun w b36 hst => ?_)
 refine CN (Op1.append (news := [.int .u8 _, .int .u32 _, str _]) hst ty113 ty116 rfl rfl (.there (.here)) rfl rfl rfl (cells_of_obj (n := 3) (hst.objL (.head _)) _ rfl) rfl rfl (by omega) fun w ao17 cp18 hst => ?_)
 replace hst := hst.drop (.there (.here))
 refine AL rfl <| NSR <| ML rfl <| CN (Op1.buildStruct ty116 stf116 (.c (v := .int .u8 _) rfl (h := (.c (v := .int .u32 _) rfl (h := (.c (v := str _) rfl (h := .nil)))))) ?_)
 refine CN (Op1.buildSl (z0 := [.int .u8 0, .int .u32 0, str []]) hst ty113 ty116 rfl rfl (by kernel_rfl) (.c (v := .agg #[.int .u8 _, .int .u32 _, str _]) rfl (h := .nil)) fun w b40 hst => ?_)
 refine CN (Op1.append (news := [.int .u8 _, .int .u32 _, str _]) hst ty113 ty116 rfl rfl (.there (.here)) rfl rfl rfl (cells_of_obj (n := 3) (hst.objL (.head _)) _ rfl) rfl rfl (by omega) fun w ao19 cp20 hst => ?_)
 replace hst := hst.drop (.there (.here))
 refine AL rfl <| NSR <| ML rfl <| CN (Op1.buildStruct ty116 stf116 (.c (v := .int .u8 _) rfl (h := (.c (v := .int .u32 _) rfl (h := (.c (v := str _) rfl (h := .nil)))))) ?_)
 refine CN (Op1.buildSl (z0 := [.int .u8 0, .int .u32 0, str []]) hst ty113 ty116 rfl rfl (by kernel_rfl) (.c (v := .agg #[.int .u8 _, .int .u32 _, str _]) rfl (h := .nil)) fun w b44 hst => ?_)
 refine CN (Op1.append (news := [.int .u8 _, .int .u32 _, str _]) hst ty113 ty116 rfl rfl (.there (.here)) rfl rfl rfl (cells_of_obj (n := 3) (hst.objL (.head _)) _ rfl) rfl rfl (by omega) fun w ao21 cp22 hst => ?_)
 replace hst := hst.drop (.there (.here))
 refine AL rfl <| NSR <| ML rfl <| CN (Op1.buildStruct ty116 stf116 (.c (v := .int .u8 _) rfl (h := (.c (v := .int .u32 _) rfl (h := (.c (v := str _) rfl (h := .nil)))))) ?_)
 refine CN (Op1.buildSl (z0 := [.int .u8 0, .int .u32 0, str []]) hst ty113 ty116 rfl rfl (by kernel_rfl) (.c (v := .agg #[.int .u8 _, .int .u32 _, str _]) rfl (h := .nil)) fun w b48 hst => ?_)
 refine CN (Op1.append (news := [.int .u8 _, .int .u32 _, str _]) hst ty113 ty116 rfl rfl (.there (.here)) rfl rfl rfl (cells_of_obj (n := 3) (hst.objL (.head _)) _ rfl) rfl rfl (by omega) fun w ao23 cp24 hst => ?_)
 replace hst := hst.drop (.there (.here))
 refine AL rfl <| NL <| Run.forget [(1, .slice _ _ _)] ⟨rfl, trivial⟩ fun f => SR <| ML rfl <| CN (Op1.buildStruct ty116 stf116 (.c (v := .int .u8 _) rfl (h := (.c (v := .int .u32 _) rfl (h := (.c (v := str _) rfl (h := .nil)))))) ?_)
 refine CN (Op1.buildSl (z0 := [.int .u8 0, .int .u32 0, str []]) hst ty113 ty116 rfl rfl (by kernel_rfl) (.c (v := .agg #[.int .u8 _, .int .u32 _, str _]) rfl (h := .nil)) fun w b52 hst => ?_)
 refine CN (Op1.append (news := [.int .u8 _, .int .u32 _, str _]) hst ty113 ty116 rfl rfl (.there (.here)) rfl rfl rfl (cells_of_obj (n := 3) (hst.objL (.head _)) _ rfl) rfl rfl (by omega) fun w ao25 cp26 hst => ?_)
 replace hst := hst.drop (.there (.here))
 refine AL rfl <| NSR <| ML rfl <| CN (Op1.buildStruct ty116 stf116 (.c (v := .int .u8 _) rfl (h := (.c (v := .int .u32 _) rfl (h := (.c (v := str _) rfl (h := .nil)))))) ?_)
 refine CN (Op1.buildSl (z0 := [.int .u8 0, .int .u32 0, str []]) hst ty113 ty116 rfl rfl (by kernel_rfl) (.c (v := .agg #[.int .u8 _, .int .u32 _, str _]) rfl (h := .nil)) fun w b56 hst => ?_)
 refine CN (Op1.append (news := [.int .u8 _, .int .u32 _, str _]) hst ty113 ty116 rfl rfl (.there (.here)) rfl rfl rfl (cells_of_obj (n := 3) (hst.objL (.head _)) _ rfl) rfl rfl (by omega) fun w ao27 cp28 hst => ?_)
 replace hst := hst.drop (.there (.here))
 refine AL rfl <| NSR <| ML rfl <| CN (Op1.buildStruct ty116 stf116 (.c (v := .int .u8 _) rfl (h := (.c (v := .int .u32 _) rfl (h := (.c (v := str _) rfl (h := .nil)))))) ?_)
 refine CN (Op1.buildSl (z0 := [.int .u8 0, .int .u32 0, str []]) hst ty113 ty116 rfl rfl (by kernel_rfl) (.c (v := .agg #[.int .u8 _, .int .u32 _, str _]) rfl (h := .nil)) fun w b60 hst => ?_)
 refine CN (Op1.append (news := [.int .u8 _, .int .u32 _, str _]) hst ty113 ty116 rfl rfl (.there (.here)) rfl rfl rfl (cells_of_obj (n := 3) (hst.objL (.head _)) _ rfl) rfl rfl (by omega) fun w ao29 cp30 hst => ?_)
 replace hst := hst.drop (.there (.here))
 refine AL rfl <| NSR <| ML rfl <| CN (Op1.buildStruct ty116 stf116 (.c (v := .int .u8 _) rfl (h := (.c (v := .int .u32 _) rfl (h := (.c (v := str _) rfl (h := .nil)))))) ?_)
 refine CN (Op1.buildSl (z0 := [.int .u8 0, .int .u32 0, str []]) hst ty113 ty116 rfl rfl (by kernel_rfl) (.c (v := .agg #[.int .u8 _, .int .u32 _, str _]) rfl (h := .nil)) fun w b64 hst => ?_)
 refine CN (Op1.append (news := [.int .u8 _, .int .u32 _, str _]) hst ty113 ty116 rfl rfl (.there (.here)) rfl rfl rfl (cells_of_obj (n := 3) (hst.objL (.head _)) _ rfl) rfl rfl (by omega) fun w ao31 cp32 hst => ?_)
 replace hst := hst.drop (.there (.here))
 refine AL rfl <| NL <| Run.forget [(1, .slice _ _ _)] ⟨rfl, trivial⟩ fun f => SR <| ML rfl <| CN (Op1.buildStruct ty116 stf116 (.c (v := .int .u8 _) rfl (h := (.c (v := .int .u32 _) rfl (h := (.c (v := str _) rfl (h := .nil)))))) ?_)
 refine CN (Op1.buildSl (z0 := [.int .u8 0, .int .u32 0, str []]) hst ty113 ty116 rfl rfl (by kernel_rfl) (.c (v := .agg #[.int .u8 _, .int .u32 _, str _]) rfl (h := .nil)) fun w b68 hst => ?_)
 refine CN (Op1.append (news := [.int .u8 _, .int .u32 _, str _]) hst ty113 ty116 rfl rfl (.there (.here)) rfl rfl rfl (cells_of_obj (n := 3) (hst.objL (.head _)) _ rfl) rfl rfl (by omega) fun w ao33 cp34 hst => ?_)
 replace hst := hst.drop (.there (.here))
 refine AL rfl <| NSR <| ML rfl <| CN (Op1.buildStruct ty116 stf116 (.c (v := .int .u8 _) rfl (h := (.c (v := .int .u32 _) rfl (h := (.c (v := str _) rfl (h := .nil)))))) ?_)
 refine CN (Op1.buildSl (z0 := [.int .u8 0, .int .u32 0, str []]) hst ty113 ty116 rfl rfl (by kernel_rfl) (.c (v := .agg #[.int .u8 _, .int .u32 _, str _]) rfl (h := .nil)) fun w b72 hst => ?_)
 refine CN (Op1.append (news := [.int .u8 _, .int .u32 _, str _]) hst ty113 ty116 rfl rfl (.there (.here)) rfl rfl rfl (cells_of_obj (n := 3) (hst.objL (.head _)) _ rfl) rfl rfl (by omega) fun w ao35 cp36 hst => ?_)
 replace hst := hst.drop (.there (.here))
 refine AL rfl <| NSR <| ML rfl <| CN (Op1.buildStruct ty116 stf116 (.c (v := .int .u8 _) rfl (h := (.c (v := .int .u32 _) rfl (h := (.c (v := str _) rfl (h := .nil)))))) ?_)
 refine CN (Op1.buildSl (z0 := [.int .u8 0, .int .u32 0, str []]) hst ty113 ty116 rfl rfl (by kernel_rfl) (.c (v := .agg #[.int .u8 _, .int .u32 _, str _]) rfl (h := .nil)) fun w b76 hst => ?_)
 refine CN (Op1.append (news := [.int .u8 _, .int .u32 _, str _]) hst ty113 ty116 rfl rfl (.there (.here)) rfl rfl rfl (cells_of_obj (n := 3) (hst.objL (.head _)) _ rfl) rfl rfl (by omega) fun w ao37 cp38 hst => ?_)
 replace hst := hst.drop (.there (.here))
 refine AL rfl <| NSR <| ML rfl <| CN (Op1.buildStruct ty116 stf116 (.c (v := .int .u8 _) rfl (h := (.c (v := .int .u32 _) rfl (h := (.c (v := str _) rfl (h := .nil)))))) ?_)
 refine CN (Op1.buildSl (z0 := [.int .u8 0, .int .u32 0, str []]) hst ty113 ty116 rfl rfl (by kernel_rfl) (.c (v := .agg #[.int .u8 _, .int .u32 _, str _]) rfl (h := .nil)) fun w b80 hst => ?_)
 refine CN (Op1.append (news := [.int .u8 _, .int .u32 _, str _]) hst ty113 ty116 rfl rfl (.there (.here)) rfl rfl rfl (cells_of_obj (n := 3) (hst.objL (.head _)) _ rfl) rfl rfl (by omega) fun w ao39 cp40 hst => ?_)
 replace hst := hst.drop (.there (.here))
 refine AL rfl <| NL <| Run.forget [(1, .slice _ _ _)] ⟨rfl, trivial⟩ fun f => SR <| ML rfl <| CN (Op1.buildStruct ty116 stf116 (.c (v := .int .u8 _) rfl (h := (.c (v := .int .u32 _) rfl (h := (.c (v := str _) rfl (h := .nil)))))) ?_)
 refine CN (Op1.buildSl (z0 := [.int .u8 0, .int .u32 0, str []]) hst ty113 ty116 rfl rfl (by kernel_rfl) (.c (v := .agg #[.int .u8 _, .int .u32 _, str _]) rfl (h := .nil)) fun w b84 hst => ?_)
 refine CN (Op1.append (news := [.int .u8 _, .int .u32 _, str _]) hst ty113 ty116 rfl rfl (.there (.here)) rfl rfl rfl (cells_of_obj (n := 3) (hst.objL (.head _)) _ rfl) rfl rfl (by omega) fun w ao41 cp42 hst => ?_)
 replace hst := hst.drop (.there (.here))
 refine AL rfl <| NSR <| ML rfl <| CN (Op1.buildStruct ty116 stf116 (.c (v := .int .u8 _) rfl (h := (.c (v := .int .u32 _) rfl (h := (.c (v := str _) rfl (h := .nil)))))) ?_)
 refine CN (Op1.buildSl (z0 := [.int .u8 0, .int .u32 0, str []]) hst ty113 ty116 rfl rfl (by kernel_rfl) (.c (v := .agg #[.int .u8 _, .int .u32 _, str _]) rfl (h := .nil)) fun w b88 hst => ?_)
 refine CN (Op1.append (news := [.int .u8 _, .int .u32 _, str _]) hst ty113 ty116 rfl rfl (.there (.here)) rfl rfl rfl (cells_of_obj (n := 3) (hst.objL (.head _)) _ rfl) rfl rfl (by omega) fun w ao43 cp44 hst => ?_)
 replace hst := hst.drop (.there (.here))
 refine AL rfl <| NSR <| ML rfl <| CN (Op1.buildStruct ty116 stf116 (.c (v := .int .u8 _) rfl (h := (.c (v := .int .u32 _) rfl (h := (.c (v := str _) rfl (h := .nil)))))) ?_)
 refine CN (Op1.buildSl (z0 := [.int .u8 0, .int .u32 0, str []]) hst ty113 ty116 rfl rfl (by kernel_rfl) (.c (v := .agg #[.int .u8 _, .int .u32 _, str _]) rfl (h := .nil)) fun w b92 hst => ?_)
 refine CN (Op1.append (news := [.int .u8 _, .int .u32 _, str _]) hst ty113 ty116 rfl rfl (.there (.here)) rfl rfl rfl (cells_of_obj (n := 3) (hst.objL (.head _)) _ rfl) rfl rfl (by omega) fun w ao45 cp46 hst => ?_)
 replace hst := hst.drop (.there (.here))
 refine AL rfl <| NSR <| ML rfl <| CN (Op1.buildStruct ty116 stf116 (.c (v := .int .u8 _) rfl (h := (.c (v := .int .u32 _) rfl (h := (.c (v := str _) rfl (h := .nil)))))) ?_)
 refine CN (Op1.buildSl (z0 := [.int .u8 0, .int .u32 0, str []]) hst ty113 ty116 rfl rfl (by kernel_rfl) (.c (v := .agg #[.int .u8 _, .int .u32 _, str _]) rfl (h := .nil)) fun w b96 hst => ?_)
 refine CN (Op1.append (news := [.int .u8 _, .int .u32 _, str _]) hst ty113 ty116 rfl rfl (.there (.here)) rfl rfl rfl (cells_of_obj (n := 3) (hst.objL (.head _)) _ rfl) rfl rfl (by omega) fun w ao47 cp48 hst => ?_)
 replace hst := hst.drop (.there (.here))
 refine AL rfl <| NL <| Run.forget [(1, .slice _ _ _)] ⟨rfl, trivial⟩ fun f => SR <| ML rfl <| CN (Op1.buildStruct ty116 stf116 (.c (v := .int .u8 _) rfl (h := (.c (v := .int .u32 _) rfl (h := (.c (v := str _) rfl (h := .nil)))))) ?_)
 refine CN (Op1.buildSl (z0 := [.int .u8 0, .int .u32 0, str []]) hst ty113 ty116 rfl rfl (by kernel_rfl) (.c (v := .agg #[.int .u8 _, .int .u32 _, str _]) rfl (h := .nil)) fun w b100 hst => ?_)
 refine CN (Op1.append (news := [.int .u8 _, .int .u32 _, str _]) hst ty113 ty116 rfl rfl (.there (.here)) rfl rfl rfl (cells_of_obj (n := 3) (hst.objL (.head _)) _ rfl) rfl rfl (by omega) fun w ao49 cp50 hst => ?_)
 replace hst := hst.drop (.there (.here))
 refine AL rfl <| NSR <| ML rfl <| CN (Op1.buildStruct ty116 stf116 (.c (v := .int .u8 _) rfl (h := (.c (v := .int .u32 _) rfl (h := (.c (v := str _) rfl (h := .nil)))))) ?_)
 refine CN (Op1.buildSl (z0 := [.int .u8 0, .int .u32 0, str []]) hst ty113 ty116 rfl rfl (by kernel_rfl) (.c (v := .agg #[.int .u8 _, .int .u32 _, str _]) rfl (h := .nil)) fun w b104 hst => ?_)
 refine CN (Op1.append (news := [.int .u8 _, .int .u32 _, str _]) hst ty113 ty116 rfl rfl (.there (.here)) rfl rfl rfl (cells_of_obj (n := 3) (hst.objL (.head _)) _ rfl) rfl rfl (by omega) fun w ao51 cp52 hst => ?_)
 replace hst := hst.drop (.there (.here))
 refine AL rfl <| NSR <| ML rfl <| CN (Op1.buildStruct ty116 stf116 (.c (v := .int .u8 _) rfl (h := (.c (v := .int .u32 _) rfl (h := (.c (v := str _) rfl (h := .nil)))))) ?_)
 refine CN (Op1.buildSl (z0 := [.int .u8 0, .int .u32 0, str []]) hst ty113 ty116 rfl rfl (by kernel_rfl) (.c (v := .agg #[.int .u8 _, .int .u32 _, str _]) rfl (h := .nil)) fun w b108 hst => ?_)
 refine CN (Op1.append (news := [.int .u8 _, .int .u32 _, str _]) hst ty113 ty116 rfl rfl (.there (.here)) rfl rfl rfl (cells_of_obj (n := 3) (hst.objL (.head _)) _ rfl) rfl rfl (by omega) fun w ao53 cp54 hst => ?_)
 replace hst := hst.drop (.there (.here))
 refine AL rfl <| NSR <| ML rfl <| CN (Op1.buildStruct ty116 stf116 (.c (v := .int .u8 _) rfl (h := (.c (v := .int .u32 _) rfl (h := (.c (v := str _) rfl (h := .nil)))))) ?_)
 refine CN (Op1.buildSl (z0 := [.int .u8 0, .int .u32 0, str []]) hst ty113 ty116 rfl rfl (by kernel_rfl) (.c (v := .agg #[.int .u8 _, .int .u32 _, str _]) rfl (h := .nil)) fun w b112 hst => ?_)
 refine CN (Op1.append (news := [.int .u8 _, .int .u32 _, str _]) hst ty113 ty116 rfl rfl (.there (.here)) rfl rfl rfl (cells_of_obj (n := 3) (hst.objL (.head _)) _ rfl) rfl rfl (by omega) fun w ao55 cp56 hst => ?_)
 replace hst := hst.drop (.there (.here))
 refine AL rfl <| NL <| Run.forget [(1, .slice _ _ _)] ⟨rfl, trivial⟩ fun f => SR <| ML rfl <| CN (Op1.buildStruct ty116 stf116 (.c (v := .int .u8 _) rfl (h := (.c (v := .int .u32 _) rfl (h := (.c (v := str _) rfl (h := .nil)))))) ?_)
 refine CN (Op1.buildSl (z0 := [.int .u8 0, .int .u32 0, str []]) hst ty113 ty116 rfl rfl (by kernel_rfl) (.c (v := .agg #[.int .u8 _, .int .u32 _, str _]) rfl (h := .nil)) fun w b116 hst => ?_)
 refine CN (Op1.append (news := [.int .u8 _, .int .u32 _, str _]) hst ty113 ty116 rfl rfl (.there (.here)) rfl rfl rfl (cells_of_obj (n := 3) (hst.objL (.head _)) _ rfl) rfl rfl (by omega) fun w ao57 cp58 hst => ?_)
 replace hst := hst.drop (.there (.here))
 refine AL rfl <| NSR <| ML rfl <| CN (Op1.buildStruct ty116 stf116 (.c (v := .int .u8 _) rfl (h := (.c (v := .int .u32 _) rfl (h := (.c (v := str _) rfl (h := .nil)))))) ?_)
 refine CN (Op1.buildSl (z0 := [.int .u8 0, .int .u32 0, str []]) hst ty113 ty116 rfl rfl (by kernel_rfl) (.c (v := .agg #[.int .u8 _, .int .u32 _, str _]) rfl (h := .nil)) fun w b120 hst => ?_)
 refine CN (Op1.append (news := [.int .u8 _, .int .u32 _, str _]) hst ty113 ty116 rfl rfl (.there (.here)) rfl rfl rfl (cells_of_obj (n := 3) (hst.objL (.head _)) _ rfl) rfl rfl (by omega) fun w ao59 cp60 hst => ?_)
 replace hst := hst.drop (.there (.here))
 refine AL rfl <| NSR <| ML rfl <| AL rfl <| NL <| run_ret1 Try.func63 rfl (TP (v := .slice _ _ _) rfl) ?_
 exact ⟨_, _, rfl, hst⟩
theorem R5ref_Enum (c n : Int) (w : World) : Ret Try.prog 56 #[.int .u8 c, .int .u32 n] w (fun v w' => v = nameV (namesL.find? (enN c n)) ∧ St w NoM [] [] w') := by
 refine Ret.enter (args := [.int .u8 c, .int .u32 n]) Try.func56 rfl rfl rfl ?_
 have hst := St.init w
 have hnl : namesL.length = 30 := by decide +kernel
 refine SR <| AS rfl <| AB rfl <| NSR <| CN (Op1.call0  ent63 rfl  ((R5ref_Names _).mono fun v w hp => ?_))
 obtain ⟨aoN, cpN, rfl, hp⟩ := hp
 replace hst := hst.call0 hp
 clear hp
 refine AL rfl <| NL <| SQ <| SR <| AI rfl <| NL <| run_block <| run_loop <| Run.indW [(0, .int .u8 _), (1, .int .u32 _), (6, .slice _ _ _)] ⟨rfl, rfl, rfl, trivial⟩ (fun (i : Nat) => [(7, .int .i64 (i : Int))]) (fun (i : Nat) => []) (fun (i : Nat) => i ≤ namesL.length ∧ (namesL.drop i).find? (enN c n) = namesL.find? (enN c n)) (fun (i : Nat) => namesL.length - i) (0) hst ⟨Nat.zero_le _, rfl⟩ ⟨rfl, trivial⟩ ?_
 intro i f w hst hJ ih1
 refine SQ <| SR <| MI rfl <| ML rfl <| CN <| Op1.lenSl (rest := []) ty113 rfl <| CN <| Op1.lss rfl rfl <| NL <| run_cond_dec rfl (fun g2 => ?_) (fun g2 => ?_)
 · skip
   refine run_skip <| SQ <| run_block <| SR <| ML rfl <| MI rfl ?_
   obtain ⟨bs3, rfl⟩ := Res.sl_some (hst.hL _ (.head _)) (by omega)
   refine CN <| Op1.indexSl ty113 ty116 rfl rfl (by omega) (by omega) <| CN <| Op1.fieldAddr fld116_0 rfl <| CN <| Op1.load1 (v := .int .u8 _) ty5 rfl rfl (Res.sl_cell (hst.hL _ (.head _)) (flat_cell (g := nameC) (d := zeroN) nameC_len rfl (by omega))) <| MC rfl <| CN <| Op1.eql rfl rfl <| MB rfl <| RunL.splitD (d := 22) rfl (fun g4 => ?_) (fun g4 => ?_)
   · skip
     refine TK (t := 22) rfl (congrArg Value.bool (decide_eq_true g4)) <| Op1.move (v := .slice _ _ _) rfl <| TK (t := 22) rfl (congrArg Value.bool (decide_eq_true g4)) <| Op1.move (v := .int .i64 _) rfl <| TK (t := 22) rfl (congrArg Value.bool (decide_eq_true g4)) <| Op1.indexSl ty113 ty116 rfl rfl (by omega) (by omega) <| TK (t := 22) rfl (congrArg Value.bool (decide_eq_true g4)) <| Op1.fieldAddr fld116_1 rfl <| TK (t := 22) rfl (congrArg Value.bool (decide_eq_true g4)) <| Op1.load1 (v := .int .u32 _) ty22 rfl rfl (Res.sl_cell (hst.hL _ (.head _)) (flat_cell (g := nameC) (d := zeroN) nameC_len rfl (by omega))) <| TK (t := 22) rfl (congrArg Value.bool (decide_eq_true g4)) <| Op1.move (v := .int .u32 _) rfl <| TK (t := 22) rfl (congrArg Value.bool (decide_eq_true g4)) <| Op1.eql rfl rfl <| CN <| Op1.pickT (u := .bool _) (congrArg Value.bool (decide_eq_true g4)) rfl <| NL <| Run.forget [(0, .int .u8 _), (1, .int .u32 _), (6, .slice _ _ _), (7, .int .i64 _), (30, .bool _)] ⟨rfl, rfl, rfl, rfl, rfl, trivial⟩ fun f => run_cond_dec rfl (fun g5 => ?_) (fun g5 => ?_)
     · skip
       refine SR <| ML rfl <| MI rfl <| CN <| Op1.indexSl ty113 ty116 rfl rfl (by omega) (by omega) <| CN <| Op1.fieldAddr fld116_2 rfl <| CN <| Op1.load1 (v := str _) ty9 rfl rfl (Res.sl_cell (hst.hL _ (.head _)) (flat_cell (g := nameC) (d := zeroN) nameC_len rfl (by omega))) <| AS rfl <| AB rfl <| NL <| run_ret2 Try.func56 rfl (TP (v := str _) rfl) (TP (v := .bool _) rfl) ?_
       rw [find_hit (d := zeroN) hJ.2 (by omega) (decide_eq_true ⟨g4, g5⟩)]
       exact ⟨rfl, hst.pure⟩
     refine run_skip <| run_inBlock <| RG <| MI rfl <| CN <| Op1.addN rfl rfl rfl (wrap_i64 (by omega) (by omega)) <| AI rfl <| NL <| run_inLoop ?_
     exact ih1 (i + 1) _ w (by omega) hst (⟨by omega, find_miss (d := zeroN) hJ.2 (by omega) (decide_eq_false (fun h => g5 h.2))⟩) ⟨rfl, rfl, rfl, trivial⟩ ⟨(congrArg (Value.int .i64) (by omega)), trivial⟩
   refine OM (t := 22) rfl (congrArg Value.bool (decide_eq_false g4)) rfl <| OM (t := 22) rfl (congrArg Value.bool (decide_eq_false g4)) rfl <| OM (t := 22) rfl (congrArg Value.bool (decide_eq_false g4)) rfl <| OM (t := 22) rfl (congrArg Value.bool (decide_eq_false g4)) rfl <| OM (t := 22) rfl (congrArg Value.bool (decide_eq_false g4)) rfl <| OM (t := 22) rfl (congrArg Value.bool (decide_eq_false g4)) rfl <| OM (t := 22) rfl (congrArg Value.bool (decide_eq_false g4)) rfl <| CN <| Op1.pickF (u := .bool _) (congrArg Value.bool (decide_eq_false g4)) rfl <| NL <| run_cond_false (congrArg Value.bool (rfl : false = _)) <| run_skip <| run_inBlock <| RG <| MI rfl <| CN (Op1.addN rfl rfl rfl (wrap_i64 (by omega) (by omega)) ?_)
   refine AI rfl <| NL <| run_inLoop ?_
   exact ih1 (i + 1) _ w (by omega) hst (⟨by omega, find_miss (d := zeroN) hJ.2 (by omega) (decide_eq_false (fun h => g4 h.1))⟩) ⟨rfl, rfl, rfl, trivial⟩ ⟨(congrArg (Value.int .i64) (by omega)), trivial⟩
 refine run_exit (id := 0) rfl <| SR <| AS rfl <| AB rfl <| NL <| run_ret2 Try.func56 rfl (TP (v := str _) rfl) (TP (v := .bool _) rfl) ?_
 rw [find_end hJ.2 (by omega)]
 exact ⟨rfl, hst.pure⟩
theorem R5gr_Enums (c : Int) (w : World) : Ret Try.prog 85 #[.int .u8 c] w (fun v w' => ∃ b, v = .func (.func 87) #[] #[.pointer (some ⟨b, 0, none⟩)] ∧ St w NoM [Res.row b 5 [.int .u8 c]] [] w') := by
 refine Ret.enter (args := [.int .u8 c]) Try.func85 rfl rfl rfl ?_
 have hst := St.init w
 refine SR <| CN <| Op1.box (v := .int .u8 _) hst rfl rfl fun w b1 hst => CN <| Op1.assign (v := _) rfl <| NSR <| CN <| Op1.makeFunc <| CN <| Op1.assign (v := .func _ _ _) rfl <| NL <| run_ret1 Try.func85 rfl (TP (v := .func _ _ _) rfl) ?_
 exact ⟨_, rfl, hst⟩
theorem R5gr_names2 {c : Int} {s : Byts} (hs : look namesT c = s) (w : World) : Ret Try.prog 77 #[.int .u8 c] w fun v w' => v = str s ∧ St w NoM [] [] w' := by
 subst hs; exact R5gr_names c w
theorem R5enums_iter (c : Int) (h0 : 0 ≤ c) (h1 : c ≤ 255) (bc : Nat) (w : World) (hb : (Res.row bc 5 [.int .u8 c]).holds w) : IterOk Try.prog 87 [.pointer (some ⟨bc, 0, none⟩)] (enumsL c).length (fun j => [.int .u32 ((enumsL c).getD j zeroN).n, str ((enumsL c).getD j zeroN).name]) (· = bc) w := by
 intro yv R S hR hFD hy
 obtain ⟨s, hs⟩ : ∃ s, look namesT c = s := ⟨_, rfl⟩
 obtain ⟨hasc, hlen, hl⟩ := names_all h0 h1
 rw [hs] at hasc hlen hl
 have hout : (enF s).out.length = (enumsL c).length := by rw [hl]; simp
 have hlt : ∀ i (hi : i < s.length), s[i] = 32 → (enF (s.take i)).num = true → (enF (s.take i)).out.length < (enumsL c).length := fun i hi h2 h3 => by
   have := (enF_told hl hi h2 h3).1; simpa using this
 have hyx : ∀ i (hi : i < s.length), s[i] = 32 → (enF (s.take i)).num = true → ∀ w1, St w (R 0).foot [R (enF (s.take i)).out.length] [] w1 → CallV Try.prog yv [.int .u32 (enF (s.take i)).n, str (enF (s.take i)).word] w1 fun v w2 => (v = .bool true ∧ St w1 (R (enF (s.take i)).out.length).foot [R ((enF (s.take i)).out.length + 1)] [] w2) ∨ (v = .bool false ∧ St w1 (R (enF (s.take i)).out.length).foot [S (enF (s.take i)).out.length] [] w2) := fun i hi h2 h3 w1 hw1 => by
   have t := hy _ (hlt i hi h2 h3) w1 hw1
   have ht := (enF_told hl hi h2 h3).2
   have hk := hlt i hi h2 h3
   rw [map_getD (d := zeroN) hk] at ht
   dsimp only at t
   injection ht with e1 e2
   rwa [e1, e2] at t
 refine Ret.enter (args := [yv, .pointer (some ⟨bc, 0, none⟩)]) Try.func87 rfl rfl rfl ?_
 have hst : St w (R 0).foot [R 0] [Res.row bc 5 [.int .u8 c]] w := St.enter1 hR (fun d hd => by cases hd with | head => exact hb | tail _ h => cases h) (fun d hd => by cases hd with | head => exact fun b hb hb2 => hFD b hb hb2 | tail _ h => cases h)
 refine SR <| AU rfl <| AS rfl <| NSR <| AS rfl <| NSR <| AB rfl <| NL <| SQ <| RG ?_
 refine CN <| Op1.load1 (v := .int .u8 _) ty5 rfl rfl (hst.cellD (.head _) rfl) <| CN <| Op1.call1 (v1 := .int .u8 _) ent77 rfl rfl <| Ret.det (R5gr_names2 hs _) hst fun w hst => CN <| Op1.rangeS hst ty9 rfl fun w it11 hst => NL <| run_block <| run_loop <| Run.indW [(0, _), (11, .pointer (some ⟨_, 0, none⟩))] ⟨rfl, rfl, trivial⟩ (fun (i : Nat) => [(3, .int .u32 (enF (s.take i)).n), (5, str (enF (s.take i)).word), (6, .bool (enF (s.take i)).num)]) (fun (i : Nat) => [Res.iter it11 s i, R (enF (s.take i)).out.length]) (fun (i : Nat) => i ≤ s.length) (fun (i : Nat) => s.length - i) (0) hst (Nat.zero_le _) ⟨rfl, rfl, rfl, trivial⟩ ?_
 intro i f w hst hJ ih1
 refine SQ <| RG ?_
 rcases Nat.lt_or_ge i s.length with g2 | g2
 · skip
   have hc := hasc _ (List.getElem_mem g2)
   have hwl := (enF_inv s hasc i (by omega)).1
   refine CN (Op1.nextS hst rfl (.here) (List.getElem?_eq_getElem g2) (hc) fun w hst => ?_)
   refine CN <| Op1.extract (v := .bool _) rfl rfl <| NL <| SQ <| run_cond_true (congrArg Value.bool (rfl : true = _)) <| run_skip <| run_block <| SR <| CN <| Op1.extract (v := .int .i32 _) rfl rfl <| CN <| Op1.assign (v := .int .i32 _) rfl <| NL <| SQ <| run_block <| SQ <| RG ?_
   refine CN <| Op1.move (v := .int .i32 _) rfl <| CN <| Op1.neq rfl rfl <| AB rfl <| NL <| run_cond_dec rfl (fun g3 => ?_) (fun g3 => ?_)
   · skip
     refine SR <| MS rfl <| CN <| Op1.move (v := .int .i32 _) rfl <| CN <| Op1.runeStr ty21 ty9 rfl (by omega) (by omega) <| CN <| Op1.addS rfl rfl (by first | omega | (simp only [List.length_cons, List.length_nil, List.length_append]; omega) | (simp; omega)) <| AS rfl <| NL <| run_exit (id := 1) rfl <| run_inLoop ?_
     have hstep := enF_step g2
     have hsp : enF (s.take (i + 1)) = ⟨(enF (s.take i)).n, (enF (s.take i)).word ++ [s[i]], (enF (s.take i)).num, (enF (s.take i)).out⟩ := by rw [hstep]; unfold enStep; rw [if_pos (fun he => g3 (by rw [he]; rfl))]
     exact ih1 (i + 1) _ w (by omega) (by (try dsimp only); rw [hsp]; exact hst) (by omega) ⟨rfl, rfl, trivial⟩ ⟨(congrArg (Value.int .u32) (by rw [hsp])), (congrArg str (by rw [hsp]; simp)), (congrArg Value.bool (by rw [hsp])), trivial⟩
   refine SR <| MB rfl <| CN <| Op1.not rfl <| AB rfl <| NL <| run_cond_split rfl (fun g4 => ?_) (fun g4 => ?_)
   · skip
     refine RG <| MS rfl <| CN <| Op1.call1 (v1 := str _) ent88 rfl rfl <| Ret.det (R5gr_number _ (enF_inv s hasc i (by omega)).2 _) hst fun w hst => AU rfl <| NL <| run_inBlock <| SR <| MB rfl <| CN <| Op1.not rfl <| AB rfl <| NR <| AS rfl <| NL ?_
     refine run_inBlock <| run_inLoop ?_
     have hstep := enF_step g2
     have hd32 : s[i] = 32 := UInt8.toNat_inj.1 (by have : (32 : UInt8).toNat = 32 := rfl; omega)
     have hnu : (enF (s.take i)).num = false := by simpa using g4
     have hsp : enF (s.take (i + 1)) = ⟨numF (enF (s.take i)).word, [], true, (enF (s.take i)).out⟩ := by rw [hstep]; unfold enStep; rw [if_neg (by simp [hd32]), if_neg (by simp [hnu])]
     exact ih1 (i + 1) _ w (by omega) (by (try dsimp only); rw [hsp]; exact hst) (by omega) ⟨rfl, rfl, trivial⟩ ⟨(congrArg (Value.int .u32) (by rw [hsp])), (congrArg str (by rw [hsp])), (congrArg Value.bool (by rw [hsp, hnu]; rfl)), trivial⟩
   refine SR <| MS rfl <| AS rfl <| NSR <| CN <| Op1.move (v := _) rfl <| MU rfl <| MS rfl ?_
   replace hst := hst.pick (.cons (.there (.here)) (.cons (.here) .nil))
   have hc32 : s[i] = 32 := UInt8.toNat_inj.1 (by have : (32 : UInt8).toNat = 32 := rfl; omega)
   have hnum : (enF (s.take i)).num = true := by simpa using g4
   refine CN (Op1.callV2 (v1 := .int .u32 _) (v2 := str _) rfl rfl rfl ((hyx i (by omega) hc32 hnum _ hst.one).mono fun v w hp => ?_))
   rcases hp with ⟨rfl, hp⟩ | ⟨rfl, hp⟩
   · skip
     replace hst := hst.call1 hp
     clear hp
     refine CN <| Op1.not rfl <| NL <| run_cond_false (congrArg Value.bool (congrArg not (rfl : true = _))) <| run_skip <| run_inBlock <| SR <| MB rfl <| CN <| Op1.not rfl <| AB rfl <| NL <| Run.forget [(0, _), (3, .int .u32 _), (6, .bool _), (11, .pointer (some ⟨_, 0, none⟩))] ⟨rfl, rfl, rfl, rfl, trivial⟩ fun f => RG <| AS rfl <| NL ?_
     refine run_inBlock <| run_inLoop ?_
     have hstep := enF_step g2
     have hd32 : s[i] = 32 := UInt8.toNat_inj.1 (by have : (32 : UInt8).toNat = 32 := rfl; omega)
     have hnu : (enF (s.take i)).num = true := by simpa using g4
     have hsp : enF (s.take (i + 1)) = ⟨(enF (s.take i)).n, [], false, (enF (s.take i)).out ++ [((enF (s.take i)).n, (enF (s.take i)).word)]⟩ := by rw [hstep]; unfold enStep; rw [if_neg (by simp [hd32]), if_pos hnu]
     replace hst := hst.pick (.cons (.there (.here)) (.cons (.here) .nil))
     exact ih1 (i + 1) _ w (by omega) (by (try dsimp only); rw [hsp]; simp only [List.length_append, List.length_cons, List.length_nil]; exact hst) (by omega) ⟨rfl, rfl, trivial⟩ ⟨(congrArg (Value.int .u32) (by rw [hsp])), (congrArg str (by rw [hsp])), (congrArg Value.bool (by rw [hsp, hnu]; rfl)), trivial⟩
   · skip
     replace hst := hst.call1 hp
     clear hp
     refine CN <| Op1.not rfl <| NL <| run_cond_true (congrArg Value.bool (congrArg not (rfl : false = _))) <| run_ret0 Try.func87 rfl  ?_
     replace hst := hst.pick (.cons (.here) (.cons (.here) .nil))
     exact .inr ⟨(enF (s.take i)).out.length, hlt i (by omega) hc32 hnum, hst.one⟩
 obtain rfl : i = s.length := by omega
 refine CN <| Op1.nextE hst rfl (.head _) g2 <| CN <| Op1.extract (v := .bool _) rfl rfl <| NL <| SQ <| run_cond_false (congrArg Value.bool (rfl : false = _)) <| run_exit (id := 0) rfl <| run_end0 Try.func87 rfl  ?_
 replace hst := hst.pick (.cons (.there (.here)) (.cons (.here) .nil))
 rw [List.take_length, hout] at hst
 exact .inl hst.one
end Go.SK
namespace Go.SK
open Go Go.Proofs
theorem ent85 : Enters Try.prog 85 := ⟨Try.f85, _, Try.func85, by kernel_rfl, rfl⟩
theorem ent87 : Enters Try.prog 87 := ⟨Try.f87, _, Try.func87, by kernel_rfl, rfl⟩
end Go.SK
namespace Go.SK
open Go Go.Proofs
open Go.RowKit
theorem R5gr_Enum (c n : Int) (h0 : 0 ≤ c) (h1 : c ≤ 255) (w : World) : Ret Try.prog 81 #[.int .u8 c, .int .u32 n] w (fun v w' => v = nameV (namesL.find? (enN c n)) ∧ St w NoM [] [] w') := by
 refine Ret.enter (args := [.int .u8 c, .int .u32 n]) Try.func81 rfl rfl rfl ?_
 have hst := St.init w
 refine SR <| CN <| Op1.box (v := .int .u32 _) hst rfl rfl fun w b3 hst => CN <| Op1.alloc hst ty9 fun w b4 hst => CN <| Op1.alloc hst ty4 fun w b5 hst => NL <| SQ <| SR <| MC rfl <| CN (Op1.call1 (v1 := .int .u8 _) ent85 rfl rfl ((R5gr_Enums _ _).mono fun v w hp => ?_))
 obtain ⟨bc, rfl, hp⟩ := hp
 replace hst := hst.call0 hp
 clear hp
 refine NL <| run_block ?_
 replace hst := hst.addProp (p := ((enumsL c).drop 0).find? (fun x => decide (x.n = n)) = (enumsL c).find? (fun x => decide (x.n = n))) (rfl)
 replace hst := hst.pick (.cons (.here) (.cons (.there (.there (.here))) (.cons (.there (.here)) (.cons (.here) (.cons (.here) .nil)))))
 refine run_rangeIter (L1 := [_, _, _]) (L2 := [_, _]) (item := (fun j => [.int .u32 ((enumsL c).getD j zeroN).n, str ((enumsL c).getD j zeroN).name])) (FD := (· = bc)) (fun i => [Res.prop (((enumsL c).drop i).find? (fun x => decide (x.n = n)) = (enumsL c).find? (fun x => decide (x.n = n))), Res.row b4 9 [str []], Res.row b5 4 [.bool false]]) (fun i => [Res.prop ((enumsL c).find? (fun x => decide (x.n = n)) = some ((enumsL c).getD i zeroN)), Res.row b4 9 [str ((enumsL c).getD i zeroN).name], Res.row b5 4 [.bool true]]) (fun _ => .ret) hst rfl rfl ent87 (fun b hb => .inl (by subst hb; exact ⟨_, (.head _), rfl⟩)) (fun w1 hw1 => R5enums_iter c h0 h1 bc w1 (hw1.hL _ (.tail _ (.tail _ (.tail _ (.head _)))))) (fun _ _ => rfl) ?_ ?_ ?_
 · intro i hi w bl br lp hlp hst hk
   have hprop : ((enumsL c).drop i).find? (fun x => decide (x.n = n)) = (enumsL c).find? (fun x => decide (x.n = n)) := hst.hL _ (.tail _ (.tail _ (.head _)))
   refine SR <| AU rfl <| NR <| AS rfl <| NL <| run_beginR hlp hst (.here) fun w hst => run_block <| SR <| MU rfl <| CN <| Op1.load1 (v := .int .u32 _) ty22 rfl rfl (hst.cellD (.tail _ (.head _)) rfl) <| CN <| Op1.eql rfl rfl <| NL ?_
   refine run_cond_dec rfl (fun g1 => ?_) (fun g1 => ?_)
   · skip
     refine SR <| MS rfl <| CN (SO (v := str _) hst ty9 rfl rfl (.there (.there (.there (.here)))) fun w hst => ?_)
     refine CN (SO (v := .bool _) hst ty4 rfl rfl (.there (.there (.there (.there (.here))))) fun w hst => ?_)
     refine NL <| run_retR hst (.here) fun w hst => ?_
     replace hst := hst.addProp (p := (enumsL c).find? (fun x => decide (x.n = n)) = some ((enumsL c).getD i zeroN)) (find_hit (d := zeroN) hprop hi (decide_eq_true g1))
     replace hst := hst.pick (.cons (.there (.here)) (.cons (.there (.here)) (.cons (.here) (.cons (.there (.here)) (.cons (.there (.here)) .nil)))))
     exact .inr ⟨rfl, _, hst⟩
   refine run_skip <| run_inBlock <| run_endR hlp hst (.here) fun w hst => ?_
   replace hst := hst.addProp (p := ((enumsL c).drop (i + 1)).find? (fun x => decide (x.n = n)) = (enumsL c).find? (fun x => decide (x.n = n))) (find_miss (d := zeroN) hprop hi (decide_eq_false g1))
   replace hst := hst.pick (.cons (.there (.here)) (.cons (.there (.here)) (.cons (.here) (.cons (.there (.here)) (.cons (.there (.here)) .nil)))))
   exact .inl ⟨rfl, _, hst⟩
 · intro w bl br lp hst
   have hall : ((enumsL c).drop (enumsL c).length).find? (fun x => decide (x.n = n)) = (enumsL c).find? (fun x => decide (x.n = n)) := hst.hL _ (.tail _ (.tail _ (.head _)))
   refine run_inBlock <| SR <| CN (SO (v := str _) hst ty9 rfl rfl (.there (.there (.there (.here)))) fun w hst => ?_)
   refine CN (SO (v := .bool _) hst ty4 rfl rfl (.there (.there (.there (.there (.here))))) fun w hst => ?_)
   refine NL ?_
   replace hst := hst.pick (.cons (.there (.here)) (.cons (.here) (.cons (.here) (.cons (.here) (.cons (.here) (.cons (.here) (.cons (.here) .nil)))))))
   refine run_ret_marks [br] Try.func81 hst fun w hst => ⟨_, res2 rfl (RV.cell1 (v := str _) rfl ty9 rfl (hst.cellL (.tail _ (.tail _ (.head _))) rfl)) (RV.cell1 (v := .bool _) rfl ty4 rfl (hst.cellL (.tail _ (.tail _ (.tail _ (.head _)))) rfl)), ?_⟩
   rw [← enums_find, find_end hall (Nat.le_refl _)]
   exact ⟨rfl, hst.pure⟩
 · intro i hi w bl br lp hst
   have hs : (enumsL c).find? (fun x => decide (x.n = n)) = some ((enumsL c).getD i zeroN) := hst.hL _ (.tail _ (.tail _ (.head _)))
   replace hst := hst.pick (.cons (.there (.here)) (.cons (.here) (.cons (.here) (.cons (.here) (.cons (.here) (.cons (.here) (.cons (.here) .nil)))))))
   refine run_ret_marks [br] Try.func81 hst fun w hst => ⟨_, res2 rfl (RV.cell1 (v := str _) rfl ty9 rfl (hst.cellL (.tail _ (.tail _ (.head _))) rfl)) (RV.cell1 (v := .bool _) rfl ty4 rfl (hst.cellL (.tail _ (.tail _ (.tail _ (.head _)))) rfl)), ?_⟩
   rw [← enums_find, hs]
   exact ⟨rfl, hst.pure⟩
end Go.SK
namespace Go.SK
open Go Go.Proofs
theorem fld128_0 : FldF Try.prog 128 0 0 := FldF.of (n := 7) (by kernel_rfl)
theorem fld74_4 : FldF Try.prog 74 4 4 := FldF.of (n := 0) (by kernel_rfl)
theorem fld74_5 : FldF Try.prog 74 5 5 := FldF.of (n := 0) (by kernel_rfl)
theorem ty128 : TyF Try.prog 128 (.struct (fieldsOf Try.prog 128)) 8 80 [.int .u16 0, str [], .bool false, .bool false, str [], str [], .int .i64 0, .int .u8 0] := TyF.of (by kernel_rfl) (by kernel_rfl)
theorem ty134 : TyF Try.prog 134 (.slice 129) 1 24 [.slice none 0 0] := TyF.of (by kernel_rfl) (by kernel_rfl)
theorem ty129 : TyF Try.prog 129 (.func #[3] #[5] false) 1 8 [.nilFunc] := TyF.of (by kernel_rfl) (by kernel_rfl)
theorem ent82 : Enters Try.prog 82 := ⟨Try.f82, _, Try.func82, by kernel_rfl, rfl⟩
theorem ent83 : Enters Try.prog 83 := ⟨Try.f83, _, Try.func83, by kernel_rfl, rfl⟩
theorem ent58 : Enters Try.prog 58 := ⟨Try.f58, _, Try.func58, by kernel_rfl, rfl⟩
theorem stf128 : StructF Try.prog 128 [(0, 8)] := ⟨fieldsOf Try.prog 128, by kernel_rfl, fun w => by kernel_rfl⟩
theorem ent76 : Enters Try.prog 76 := ⟨Try.f76, _, Try.func76, by kernel_rfl, rfl⟩
end Go.SK
namespace Go.SK
open Go Go.Proofs
open Go.RowKit
theorem R5gr_Kind (c : Int) (w : World) : Ret Try.prog 69 #[.int .u8 c] w (fun v w' => v = .int .u8 (kindS c) ∧ St w NoM [] [] w') := by
 refine Ret.enter (args := [.int .u8 c]) Try.func69 rfl rfl rfl ?_
 have hst := St.init w
 refine SR <| AC rfl <| NL <| SQ <| SR <| MC rfl <| NL <| run_block <| SR <| CN <| Op1.eql rfl rfl <| AB rfl <| NL ?_
 refine run_cond_dec rfl (fun g1 => ?_) (fun g1 => ?_)
 · skip
   refine SR <| AC rfl <| NL <| run_ret1 Try.func69 rfl (TP (v := .int .u8 _) rfl) <| ⟨congrArg (Value.int .u8) (Eq.symm ?_), hst.pure⟩
   unfold kindS
   rw [if_pos g1]
 refine SR <| CN <| Op1.eql rfl rfl <| AB rfl <| NL <| run_cond_dec rfl (fun g2 => ?_) (fun g2 => ?_)
 · skip
   refine SR <| AC rfl <| NL <| run_ret1 Try.func69 rfl (TP (v := .int .u8 _) rfl) <| ⟨congrArg (Value.int .u8) (Eq.symm ?_), hst.pure⟩
   unfold kindS
   rw [if_neg g1, if_pos g2]
 refine SR <| CN <| Op1.eql rfl rfl <| AB rfl <| NL <| run_cond_dec rfl (fun g3 => ?_) (fun g3 => ?_)
 · skip
   refine SR <| AC rfl <| NL <| run_ret1 Try.func69 rfl (TP (v := .int .u8 _) rfl) <| ⟨congrArg (Value.int .u8) (Eq.symm ?_), hst.pure⟩
   unfold kindS
   rw [if_neg g1, if_neg g2, if_pos g3]
 refine run_skip <| run_inBlock <| SQ <| SR <| MC rfl <| CN <| Op1.call1 (v1 := .int .u8 _) ent77 rfl rfl <| Ret.det (R5gr_names _ _) hst fun w hst => CN <| Op1.neqS rfl rfl <| NL <| run_cond_dec rfl (fun g4 => ?_) (fun g4 => ?_)
 · skip
   refine SR <| AC rfl <| NL <| run_ret1 Try.func69 rfl (TP (v := .int .u8 _) rfl) <| ⟨congrArg (Value.int .u8) (Eq.symm ?_), hst.pure⟩
   unfold kindS
   rw [if_neg g1, if_neg g2, if_neg g3, if_pos g4]
 refine run_skip <| SR <| AC rfl <| NL <| run_ret1 Try.func69 rfl (TP (v := .int .u8 _) rfl) <| ⟨congrArg (Value.int .u8) (Eq.symm ?_), hst.pure⟩
 unfold kindS
 rw [if_neg g1, if_neg g2, if_neg g3, if_neg g4]
theorem R5ref_Kind (c : Int) (h0 : 0 ≤ c) (h1 : c ≤ 255) (w : World) : Ret Try.prog 54 #[.int .u8 c] w (fun v w' => v = .int .u8 (kindS c) ∧ St w NoM [] [] w') := by
 refine Ret.enter (args := [.int .u8 c]) Try.func54 rfl rfl rfl ?_
 have hst := St.init w
 have hnl : namesL.length = 30 := by decide +kernel
 refine SR <| AC rfl <| NL <| SQ <| SR <| MC rfl <| CN <| Op1.eql rfl rfl <| NL <| run_cond_dec rfl (fun g1 => ?_) (fun g1 => ?_)
 · skip
   refine SR <| AC rfl <| NL <| run_ret1 Try.func54 rfl (TP (v := .int .u8 _) rfl) <| ⟨congrArg (Value.int .u8) (Eq.symm ?_), hst.pure⟩
   unfold kindS
   rw [if_pos g1]
 refine run_skip <| SQ <| SR <| MC rfl <| CN <| Op1.eql rfl rfl <| NL <| run_cond_dec rfl (fun g2 => ?_) (fun g2 => ?_)
 · skip
   refine SR <| AC rfl <| NL <| run_ret1 Try.func54 rfl (TP (v := .int .u8 _) rfl) <| ⟨congrArg (Value.int .u8) (Eq.symm ?_), hst.pure⟩
   unfold kindS
   rw [if_neg g1, if_pos g2]
 refine run_skip <| SQ <| SR <| MC rfl <| CN <| Op1.eql rfl rfl <| NL <| run_cond_dec rfl (fun g3 => ?_) (fun g3 => ?_)
 · skip
   refine SR <| AC rfl <| NL <| run_ret1 Try.func54 rfl (TP (v := .int .u8 _) rfl) <| ⟨congrArg (Value.int .u8) (Eq.symm ?_), hst.pure⟩
   unfold kindS
   rw [if_neg g1, if_neg g2, if_pos g3]
 refine run_skip <| SR <| CN (Op1.call0  ent63 rfl  ((R5ref_Names _).mono fun v w hp => ?_))
 obtain ⟨aoN, cpN, rfl, hp⟩ := hp
 replace hst := hst.call0 hp
 clear hp
 refine AL rfl <| NL <| SQ <| SR <| AI rfl <| NL <| run_block <| run_loop <| Run.indW [(0, .int .u8 _), (3, .slice _ _ _)] ⟨rfl, rfl, trivial⟩ (fun (i : Nat) => [(4, .int .i64 (i : Int))]) (fun (i : Nat) => []) (fun (i : Nat) => i ≤ namesL.length ∧ (namesL.drop i).find? (fun x => decide (x.letter = c)) = namesL.find? (fun x => decide (x.letter = c))) (fun (i : Nat) => namesL.length - i) (0) hst ⟨Nat.zero_le _, rfl⟩ ⟨rfl, trivial⟩ ?_
 intro i f w hst hJ ih4
 refine SQ <| SR <| MI rfl <| ML rfl <| CN <| Op1.lenSl (rest := []) ty113 rfl <| CN <| Op1.lss rfl rfl <| NL <| run_cond_dec rfl (fun g5 => ?_) (fun g5 => ?_)
 · skip
   refine run_skip <| SQ <| run_block <| SR <| ML rfl <| MI rfl ?_
   obtain ⟨bs6, rfl⟩ := Res.sl_some (hst.hL _ (.head _)) (by omega)
   refine CN <| Op1.indexSl ty113 ty116 rfl rfl (by omega) (by omega) <| CN <| Op1.fieldAddr fld116_0 rfl <| CN <| Op1.load1 (v := .int .u8 _) ty5 rfl rfl (Res.sl_cell (hst.hL _ (.head _)) (flat_cell (g := nameC) (d := zeroN) nameC_len rfl (by omega))) <| MC rfl <| CN <| Op1.eql rfl rfl <| NL <| run_cond_dec rfl (fun g7 => ?_) (fun g7 => ?_)
   · skip
     refine SR <| AC rfl <| NL <| run_ret1 Try.func54 rfl (TP (v := .int .u8 _) rfl) <| ⟨congrArg (Value.int .u8) (Eq.symm ?_), hst.pure⟩
     unfold kindS
     rw [if_neg g1, if_neg g2, if_neg g3]
     rw [if_pos ((names_any h0 h1).2 (by rw [find_hit (d := zeroN) hJ.2 (by omega) (decide_eq_true g7)]; rfl))]
   refine run_skip <| run_inBlock <| RG <| MI rfl <| CN <| Op1.addN rfl rfl rfl (wrap_i64 (by omega) (by omega)) <| AI rfl <| NL <| run_inLoop ?_
   exact ih4 (i + 1) _ w (by omega) hst (⟨by omega, find_miss (d := zeroN) hJ.2 (by omega) (decide_eq_false g7)⟩) ⟨rfl, rfl, trivial⟩ ⟨(congrArg (Value.int .i64) (by omega)), trivial⟩
 refine run_exit (id := 0) rfl <| SR <| AC rfl <| NL <| run_ret1 Try.func54 rfl (TP (v := .int .u8 _) rfl) <| ⟨congrArg (Value.int .u8) (Eq.symm ?_), hst.pure⟩
 unfold kindS
 rw [if_neg g1, if_neg g2, if_neg g3]
 rw [if_neg (fun h => absurd ((names_any h0 h1).1 h) (by rw [find_end hJ.2 (by omega)]; simp))]
theorem R5gr_fixed (fm : FormL) (hf : FOk fm) (i : Int) (h0 : 0 ≤ i) (h1 : i ≤ 9223372036854775807) (w : World) : Ret Try.prog 82 #[.agg #[.int .u16 fm.op, str fm.name, .bool fm.ty, .bool fm.res, str fm.fixed, str fm.rest, .int .i64 fm.most, .int .u8 fm.part], .int .i64 i] w (fun v w' => v = .int .u8 (fixS fm i) ∧ St w NoM [] [] w') := by
 refine Ret.enter (args := [.agg #[.int .u16 fm.op, str fm.name, .bool fm.ty, .bool fm.res, str fm.fixed, str fm.rest, .int .i64 fm.most, .int .u8 fm.part], .int .i64 i]) Try.func82 rfl rfl rfl ?_
 have hst := St.init w
 obtain ⟨hop, hmost, hfx, hrs, _, _, hf0, hr0⟩ := hf
 refine SR <| CN <| Op1.box (v := .agg #[.int .u16 _, str _, .bool _, .bool _, str _, str _, .int .i64 _, .int .u8 _]) hst rfl rfl fun w b2 hst => AC rfl <| NL <| SQ <| SR <| MI rfl <| CN <| Op1.lss rfl rfl <| MB rfl <| RunL.splitD (d := 7) rfl (fun g1 => ?_) (fun g1 => ?_)
 · skip
   refine OM (t := 7) rfl (congrArg Value.bool (decide_eq_true g1)) rfl <| OM (t := 7) rfl (congrArg Value.bool (decide_eq_true g1)) rfl <| OM (t := 7) rfl (congrArg Value.bool (decide_eq_true g1)) rfl <| OM (t := 7) rfl (congrArg Value.bool (decide_eq_true g1)) rfl <| OM (t := 7) rfl (congrArg Value.bool (decide_eq_true g1)) rfl <| OM (t := 7) rfl (congrArg Value.bool (decide_eq_true g1)) rfl <| CN <| Op1.pickT (u := .bool _) (congrArg Value.bool (decide_eq_true g1)) rfl <| NL <| run_cond_true (congrArg Value.bool (rfl : true = _)) <| SR <| AC rfl <| NL <| run_ret1 Try.func82 rfl (TP (v := .int .u8 _) rfl) <| ⟨congrArg (Value.int .u8) (Eq.symm ?_), hst.pure⟩
   unfold fixS
   first | exact if_pos (by omega) | exact if_neg (by omega)
 refine TK (t := 7) rfl (congrArg Value.bool (decide_eq_false g1)) <| Op1.move (v := .int .i64 _) rfl <| TK (t := 7) rfl (congrArg Value.bool (decide_eq_false g1)) <| Op1.fieldAddr fld128_0 rfl <| TK (t := 7) rfl (congrArg Value.bool (decide_eq_false g1)) <| Op1.fieldAddr fld74_4 rfl <| TK (t := 7) rfl (congrArg Value.bool (decide_eq_false g1)) <| Op1.load1 (v := str _) ty9 rfl rfl (hst.cellL (.head _) rfl) <| TK (t := 7) rfl (congrArg Value.bool (decide_eq_false g1)) <| Op1.lenS (rest := []) ty9 rfl <| TK (t := 7) rfl (congrArg Value.bool (decide_eq_false g1)) <| Op1.geq rfl rfl <| CN <| Op1.pickF (u := .bool _) (congrArg Value.bool (decide_eq_false g1)) rfl <| NL <| run_cond_dec rfl (fun g2 => ?_) (fun g2 => ?_)
 · skip
   refine SR <| AC rfl <| NL <| run_ret1 Try.func82 rfl (TP (v := .int .u8 _) rfl) <| ⟨congrArg (Value.int .u8) (Eq.symm ?_), hst.pure⟩
   unfold fixS
   first | exact if_pos (by omega) | exact if_neg (by omega)
 refine run_skip <| SR <| CN <| Op1.fieldAddr fld128_0 rfl <| CN <| Op1.fieldAddr fld74_4 rfl <| CN <| Op1.load1 (v := str _) ty9 rfl rfl (hst.cellL (.head _) rfl) <| MI rfl <| CN <| Op1.indexS ty9 rfl rfl (by omega) (by omega) <| AC rfl <| NL <| run_ret1 Try.func82 rfl (TP (v := .int .u8 _) rfl) <| ⟨congrArg (Value.int .u8) (Eq.symm ?_), hst.pure⟩
 unfold fixS
 first | exact if_pos (by omega) | exact if_neg (by omega)
theorem R5gr_rest (fm : FormL) (hf : FOk fm) (i : Int) (h0 : 0 ≤ i) (h1 : i ≤ 9223372036854775807) (w : World) : Ret Try.prog 83 #[.agg #[.int .u16 fm.op, str fm.name, .bool fm.ty, .bool fm.res, str fm.fixed, str fm.rest, .int .i64 fm.most, .int .u8 fm.part], .int .i64 i] w (fun v w' => v = .int .u8 (restS fm i) ∧ St w NoM [] [] w') := by
 refine Ret.enter (args := [.agg #[.int .u16 fm.op, str fm.name, .bool fm.ty, .bool fm.res, str fm.fixed, str fm.rest, .int .i64 fm.most, .int .u8 fm.part], .int .i64 i]) Try.func83 rfl rfl rfl ?_
 have hst := St.init w
 obtain ⟨hop, hmost, hfx, hrs, _, _, hf0, hr0⟩ := hf
 refine SR <| CN <| Op1.box (v := .agg #[.int .u16 _, str _, .bool _, .bool _, str _, str _, .int .i64 _, .int .u8 _]) hst rfl rfl fun w b2 hst => AC rfl <| NSR <| MI rfl <| CN <| Op1.fieldAddr fld128_0 rfl <| CN <| Op1.fieldAddr fld74_4 rfl <| CN <| Op1.load1 (v := str _) ty9 rfl rfl (hst.cellL (.head _) rfl) <| CN <| Op1.lenS (rest := []) ty9 rfl <| CN <| Op1.subN rfl rfl rfl (wrap_i64 (by omega) (by omega)) <| AI rfl <| NL ?_
 refine SQ <| SR <| MI rfl <| CN <| Op1.lss rfl rfl <| MB rfl <| RunL.splitD (d := 13) rfl (fun g1 => ?_) (fun g1 => ?_)
 · skip
   refine OM (t := 13) rfl (congrArg Value.bool (decide_eq_true g1)) rfl <| OM (t := 13) rfl (congrArg Value.bool (decide_eq_true g1)) rfl <| OM (t := 13) rfl (congrArg Value.bool (decide_eq_true g1)) rfl <| OM (t := 13) rfl (congrArg Value.bool (decide_eq_true g1)) rfl <| CN <| Op1.pickT (u := .bool _) (congrArg Value.bool (decide_eq_true g1)) rfl <| MB rfl <| OM (t := 19) rfl (congrArg Value.bool (rfl : true = _)) rfl <| OM (t := 19) rfl (congrArg Value.bool (rfl : true = _)) rfl <| OM (t := 19) rfl (congrArg Value.bool (rfl : true = _)) rfl <| OM (t := 19) rfl (congrArg Value.bool (rfl : true = _)) rfl <| OM (t := 19) rfl (congrArg Value.bool (rfl : true = _)) rfl <| RunL.omitU (t := 24) rfl rfl <| RunL.omitU (t := 24) rfl rfl <| RunL.omitU (t := 24) rfl rfl <| RunL.omitU (t := 24) rfl rfl ?_
   refine RunL.omitU (t := 24) rfl rfl <| RunL.omitU (t := 24) rfl rfl <| RunL.omitU (t := 24) rfl rfl <| RunL.omitU (t := 24) rfl rfl <| RunL.omitU (t := 24) rfl rfl <| RunL.omitU (t := 24) rfl rfl <| OM (t := 19) rfl (congrArg Value.bool (rfl : true = _)) rfl <| CN <| Op1.pickT (u := .bool _) (congrArg Value.bool (rfl : true = _)) rfl <| NL <| run_cond_true (congrArg Value.bool (rfl : true = _)) <| SR <| AC rfl <| NL <| run_ret1 Try.func83 rfl (TP (v := .int .u8 _) rfl) ?_
   refine ⟨congrArg (Value.int .u8) (Eq.symm ?_), hst.pure⟩
   unfold restS
   first | exact if_pos (by first | omega | (simp_all <;> omega)) | exact if_neg (by first | omega | (simp_all <;> omega))
 refine TK (t := 13) rfl (congrArg Value.bool (decide_eq_false g1)) <| Op1.fieldAddr fld128_0 rfl <| TK (t := 13) rfl (congrArg Value.bool (decide_eq_false g1)) <| Op1.fieldAddr fld74_5 rfl <| TK (t := 13) rfl (congrArg Value.bool (decide_eq_false g1)) <| Op1.load1 (v := str _) ty9 rfl rfl (hst.cellL (.head _) rfl) <| TK (t := 13) rfl (congrArg Value.bool (decide_eq_false g1)) <| Op1.eqlS rfl rfl <| CN <| Op1.pickF (u := .bool _) (congrArg Value.bool (decide_eq_false g1)) rfl <| MB rfl <| RunL.splitD (d := 19) rfl (fun g2 => ?_) (fun g2 => ?_)
 · skip
   refine OM (t := 19) rfl (congrArg Value.bool (decide_eq_true g2)) rfl <| OM (t := 19) rfl (congrArg Value.bool (decide_eq_true g2)) rfl <| OM (t := 19) rfl (congrArg Value.bool (decide_eq_true g2)) rfl <| OM (t := 19) rfl (congrArg Value.bool (decide_eq_true g2)) rfl <| OM (t := 19) rfl (congrArg Value.bool (decide_eq_true g2)) rfl <| RunL.omitU (t := 24) rfl rfl <| RunL.omitU (t := 24) rfl rfl <| RunL.omitU (t := 24) rfl rfl <| RunL.omitU (t := 24) rfl rfl <| RunL.omitU (t := 24) rfl rfl <| RunL.omitU (t := 24) rfl rfl <| RunL.omitU (t := 24) rfl rfl <| RunL.omitU (t := 24) rfl rfl <| RunL.omitU (t := 24) rfl rfl <| RunL.omitU (t := 24) rfl rfl ?_
   refine OM (t := 19) rfl (congrArg Value.bool (decide_eq_true g2)) rfl <| CN <| Op1.pickT (u := .bool _) (congrArg Value.bool (decide_eq_true g2)) rfl <| NL <| Run.forget [(1, .int .i64 _), (2, .pointer (some ⟨_, _, none⟩)), (36, .bool _)] ⟨rfl, rfl, rfl, trivial⟩ fun f => run_cond_true (congrArg Value.bool (rfl : true = _)) <| SR <| AC rfl <| NL <| run_ret1 Try.func83 rfl (TP (v := .int .u8 _) rfl) <| ⟨congrArg (Value.int .u8) (Eq.symm ?_), hst.pure⟩
   unfold restS
   first | exact if_pos (by first | omega | (simp_all <;> omega)) | exact if_neg (by first | omega | (simp_all <;> omega))
 refine TK (t := 19) rfl (congrArg Value.bool (decide_eq_false g2)) <| Op1.fieldAddr fld128_0 rfl <| TK (t := 19) rfl (congrArg Value.bool (decide_eq_false g2)) <| Op1.fieldAddr fld74_6 rfl <| TK (t := 19) rfl (congrArg Value.bool (decide_eq_false g2)) <| Op1.load1 (v := .int .i64 _) ty3 rfl rfl (hst.cellL (.head _) rfl) <| TK (t := 19) rfl (congrArg Value.bool (decide_eq_false g2)) <| Op1.gtr rfl rfl <| TK (t := 19) rfl (congrArg Value.bool (decide_eq_false g2)) <| Op1.move (v := .bool _) rfl <| RunL.splitD (d := 24) rfl (fun g3 => ?_) (fun g3 => ?_)
 · skip
   refine TK (t := 24) rfl (congrArg Value.bool (decide_eq_true g3)) <| Op1.move (v := .int .i64 _) rfl <| TK (t := 24) rfl (congrArg Value.bool (decide_eq_true g3)) <| Op1.fieldAddr fld128_0 rfl <| TK (t := 24) rfl (congrArg Value.bool (decide_eq_true g3)) <| Op1.fieldAddr fld74_6 rfl <| TK (t := 24) rfl (congrArg Value.bool (decide_eq_true g3)) <| Op1.load1 (v := .int .i64 _) ty3 rfl rfl (hst.cellL (.head _) rfl) <| TK (t := 24) rfl (congrArg Value.bool (decide_eq_true g3)) <| Op1.fieldAddr fld128_0 rfl <| TK (t := 24) rfl (congrArg Value.bool (decide_eq_true g3)) <| Op1.fieldAddr fld74_5 rfl <| TK (t := 24) rfl (congrArg Value.bool (decide_eq_true g3)) <| Op1.load1 (v := str _) ty9 rfl rfl (hst.cellL (.head _) rfl) <| TK (t := 24) rfl (congrArg Value.bool (decide_eq_true g3)) (Op1.lenS (rest := []) ty9 rfl ?_)
   first | refine TK (t := 24) rfl (congrArg Value.bool (decide_eq_true g3)) (Op1.mulN rfl rfl rfl (wrap_i64 (by omega) (by omega)) ?_) | refine TK (t := 24) rfl (congrArg Value.bool (decide_eq_true g3)) (Op1.mulB rfl rfl (by omega) (by omega) (by omega) (by omega) (fun hm4 hm5 => ?_))
   refine TK (t := 24) rfl (congrArg Value.bool (decide_eq_true g3)) <| Op1.geq rfl rfl <| TK (t := 19) rfl (congrArg Value.bool (decide_eq_false g2)) <| Op1.pickT (u := .bool _) (congrArg Value.bool (decide_eq_true g3)) rfl <| CN <| Op1.pickF (u := .bool _) (congrArg Value.bool (decide_eq_false g2)) rfl <| NL <| Run.forget [(1, .int .i64 _), (2, .pointer (some ⟨_, _, none⟩)), (36, .bool _)] ⟨rfl, rfl, rfl, trivial⟩ fun f => run_cond_dec rfl (fun g6 => ?_) (fun g6 => ?_)
   · skip
     refine SR <| AC rfl <| NL <| run_ret1 Try.func83 rfl (TP (v := .int .u8 _) rfl) <| ⟨congrArg (Value.int .u8) (Eq.symm ?_), hst.pure⟩
     unfold restS
     first | exact if_pos (by first | omega | (simp_all <;> omega)) | exact if_neg (by first | omega | (simp_all <;> omega))
   have hrp : 0 < fm.rest.length := List.length_pos_iff.2 g2
   have hmd := Int.emod_lt_of_pos (i - (fm.fixed.length : Int)) (show (0 : Int) < fm.rest.length by omega)
   have hmn := Int.emod_nonneg (i - (fm.fixed.length : Int)) (show (fm.rest.length : Int) ≠ 0 by omega)
   refine run_skip <| SQ <| RunD.start [] hst (bs := [0, 1, 3, 0, 0, 16, 48, 112, 248, 511, 1023]) (ds := [some 37, some 38, some 39, some 40, some 41, some 42, some 43, some 44, some 45, some 46, some 4]) ⟨by kernel_rfl, by kernel_rfl, by kernel_rfl⟩ (fun tab7 => ?_)
   refine RunD.op (det _) tab7 1 (fun f' L' w' hc => Op1.fieldAddr fld128_0 (hc.old (v := .pointer (some ⟨_, _, none⟩)) rfl rfl rfl) ⟨[], ⟨rfl, rfl⟩, hc.st⟩) <| RunD.op (det _) tab7 2 (fun f' L' w' hc => Op1.fieldAddr fld74_5 (hc.det (j := 0) rfl rfl rfl rfl) ⟨[], ⟨rfl, rfl⟩, hc.st⟩) <| RunD.op (det _) tab7 3 (fun f' L' w' hc => Op1.load1 (v := str _) ty9 rfl (hc.det (j := 1) rfl rfl rfl rfl) (hc.st.cellL (List.mem_append_right _ (.head _)) rfl) ⟨[], ⟨rfl, rfl⟩, hc.st⟩) <| RunD.op (det _) tab7 4 (fun f' L' w' hc => Op1.move (v := .int .i64 _) (hc.old (v := .int .i64 _) rfl rfl rfl) ⟨[], ⟨rfl, rfl⟩, hc.st⟩) <| RunD.op (det _) tab7 5 (fun f' L' w' hc => Op1.fieldAddr fld128_0 (hc.old (v := .pointer (some ⟨_, _, none⟩)) rfl rfl rfl) ⟨[], ⟨rfl, rfl⟩, hc.st⟩) <| RunD.op (det _) tab7 6 (fun f' L' w' hc => Op1.fieldAddr fld74_5 (hc.det (j := 4) rfl rfl rfl rfl) ⟨[], ⟨rfl, rfl⟩, hc.st⟩) <| RunD.op (det _) tab7 7 (fun f' L' w' hc => Op1.load1 (v := str _) ty9 rfl (hc.det (j := 5) rfl rfl rfl rfl) (hc.st.cellL (List.mem_append_right _ (.head _)) rfl) ⟨[], ⟨rfl, rfl⟩, hc.st⟩) <| RunD.op (det _) tab7 8 (fun f' L' w' hc => Op1.lenS (rest := []) ty9 (hc.det (j := 6) rfl rfl rfl rfl) ⟨[], ⟨rfl, rfl⟩, hc.st⟩) ?_
   first | refine RunD.op (det _) tab7 9 (fun f' L' w' hc => Op1.remN (hc.det (j := 3) rfl rfl rfl rfl) (hc.det (j := 7) rfl rfl rfl rfl) (by omega) (by omega) rfl ⟨[], ⟨rfl, rfl⟩, hc.st⟩) ?_ | refine RunD.op (det _) tab7 9 (fun f' L' w' hc => Op1.rem (hc.det (j := 3) rfl rfl rfl rfl) (hc.det (j := 7) rfl rfl rfl rfl) (by omega) ⟨[], ⟨rfl, rfl⟩, hc.st⟩) ?_
   refine RunD.fin followsMixed tab7 hst rfl (fun f8 w R11 hs9 hd10 hr12 hst => ?_)
   obtain ⟨h37_, r0⟩ := hd10 0 37 rfl rfl
   obtain ⟨h38_, r1⟩ := hd10 1 38 rfl rfl
   obtain ⟨h39_, r2⟩ := hd10 2 39 rfl rfl
   obtain ⟨h40_, r3⟩ := hd10 3 40 rfl rfl
   obtain ⟨h41_, r4⟩ := hd10 4 41 rfl rfl
   obtain ⟨h42_, r5⟩ := hd10 5 42 rfl rfl
   obtain ⟨h43_, r6⟩ := hd10 6 43 rfl rfl
   obtain ⟨h44_, r7⟩ := hd10 7 44 rfl rfl
   obtain ⟨h45_, r8⟩ := hd10 8 45 rfl rfl
   simp only [show List.range 9 = [0, 1, 2, 3, 4, 5, 6, 7, 8] from rfl, List.flatMap_cons, List.flatMap_nil, List.map_cons, List.map_nil, r0, r1, r2, r3, r4, r5, r6, r7, r8, List.nil_append, List.append_nil, List.cons_append] at hst
   refine RunL.slots (sl := [(39, str _), (45, .int .i64 _)]) ⟨h39_, h45_, trivial⟩ ?_
   clear hs9 hd10 hr12 tab7
   refine CN <| Op1.indexS ty9 rfl rfl (by omega) (by omega) <| AC rfl <| NL <| run_ret1 Try.func83 rfl (TP (v := .int .u8 _) rfl) <| ⟨congrArg (Value.int .u8) (Eq.symm ?_), hst.pure⟩
   unfold restS
   first | exact if_pos (by first | omega | (simp_all <;> omega)) | exact if_neg (by first | omega | (simp_all <;> omega))
 refine OM (t := 24) rfl (congrArg Value.bool (decide_eq_false g3)) rfl <| OM (t := 24) rfl (congrArg Value.bool (decide_eq_false g3)) rfl <| OM (t := 24) rfl (congrArg Value.bool (decide_eq_false g3)) rfl <| OM (t := 24) rfl (congrArg Value.bool (decide_eq_false g3)) rfl <| OM (t := 24) rfl (congrArg Value.bool (decide_eq_false g3)) rfl <| OM (t := 24) rfl (congrArg Value.bool (decide_eq_false g3)) rfl <| OM (t := 24) rfl (congrArg Value.bool (decide_eq_false g3)) rfl <| OM (t := 24) rfl (congrArg Value.bool (decide_eq_false g3)) rfl <| OM (t := 24) rfl (congrArg Value.bool (decide_eq_false g3)) rfl <| OM (t := 24) rfl (congrArg Value.bool (decide_eq_false g3)) rfl <| TK (t := 19) rfl (congrArg Value.bool (decide_eq_false g2)) <| Op1.pickF (u := .bool _) (congrArg Value.bool (decide_eq_false g3)) rfl <| CN <| Op1.pickF (u := .bool _) (congrArg Value.bool (decide_eq_false g2)) rfl <| NL <| Run.forget [(1, .int .i64 _), (2, .pointer (some ⟨_, _, none⟩)), (36, .bool _)] ⟨rfl, rfl, rfl, trivial⟩ (fun f => ?_)
 have hrp : 0 < fm.rest.length := List.length_pos_iff.2 g2
 have hmd := Int.emod_lt_of_pos (i - (fm.fixed.length : Int)) (show (0 : Int) < fm.rest.length by omega)
 have hmn := Int.emod_nonneg (i - (fm.fixed.length : Int)) (show (fm.rest.length : Int) ≠ 0 by omega)
 refine run_cond_false (congrArg Value.bool (rfl : false = _)) <| run_skip <| SQ <| RunD.start [] hst (bs := [0, 1, 3, 0, 0, 16, 48, 112, 248, 511, 1023]) (ds := [some 37, some 38, some 39, some 40, some 41, some 42, some 43, some 44, some 45, some 46, some 4]) ⟨by kernel_rfl, by kernel_rfl, by kernel_rfl⟩ (fun tab13 => ?_)
 refine RunD.op (det _) tab13 1 (fun f' L' w' hc => Op1.fieldAddr fld128_0 (hc.old (v := .pointer (some ⟨_, _, none⟩)) rfl rfl rfl) ⟨[], ⟨rfl, rfl⟩, hc.st⟩) <| RunD.op (det _) tab13 2 (fun f' L' w' hc => Op1.fieldAddr fld74_5 (hc.det (j := 0) rfl rfl rfl rfl) ⟨[], ⟨rfl, rfl⟩, hc.st⟩) <| RunD.op (det _) tab13 3 (fun f' L' w' hc => Op1.load1 (v := str _) ty9 rfl (hc.det (j := 1) rfl rfl rfl rfl) (hc.st.cellL (List.mem_append_right _ (.head _)) rfl) ⟨[], ⟨rfl, rfl⟩, hc.st⟩) <| RunD.op (det _) tab13 4 (fun f' L' w' hc => Op1.move (v := .int .i64 _) (hc.old (v := .int .i64 _) rfl rfl rfl) ⟨[], ⟨rfl, rfl⟩, hc.st⟩) <| RunD.op (det _) tab13 5 (fun f' L' w' hc => Op1.fieldAddr fld128_0 (hc.old (v := .pointer (some ⟨_, _, none⟩)) rfl rfl rfl) ⟨[], ⟨rfl, rfl⟩, hc.st⟩) <| RunD.op (det _) tab13 6 (fun f' L' w' hc => Op1.fieldAddr fld74_5 (hc.det (j := 4) rfl rfl rfl rfl) ⟨[], ⟨rfl, rfl⟩, hc.st⟩) <| RunD.op (det _) tab13 7 (fun f' L' w' hc => Op1.load1 (v := str _) ty9 rfl (hc.det (j := 5) rfl rfl rfl rfl) (hc.st.cellL (List.mem_append_right _ (.head _)) rfl) ⟨[], ⟨rfl, rfl⟩, hc.st⟩) <| RunD.op (det _) tab13 8 (fun f' L' w' hc => Op1.lenS (rest := []) ty9 (hc.det (j := 6) rfl rfl rfl rfl) ⟨[], ⟨rfl, rfl⟩, hc.st⟩) ?_
 first | refine RunD.op (det _) tab13 9 (fun f' L' w' hc => Op1.remN (hc.det (j := 3) rfl rfl rfl rfl) (hc.det (j := 7) rfl rfl rfl rfl) (by omega) (by omega) rfl ⟨[], ⟨rfl, rfl⟩, hc.st⟩) ?_ | refine RunD.op (det _) tab13 9 (fun f' L' w' hc => Op1.rem (hc.det (j := 3) rfl rfl rfl rfl) (hc.det (j := 7) rfl rfl rfl rfl) (by omega) ⟨[], ⟨rfl, rfl⟩, hc.st⟩) ?_
 refine RunD.fin followsMixed tab13 hst rfl (fun f14 w R17 hs15 hd16 hr18 hst => ?_)
 obtain ⟨h37_, r0⟩ := hd16 0 37 rfl rfl
 obtain ⟨h38_, r1⟩ := hd16 1 38 rfl rfl
 obtain ⟨h39_, r2⟩ := hd16 2 39 rfl rfl
 obtain ⟨h40_, r3⟩ := hd16 3 40 rfl rfl
 obtain ⟨h41_, r4⟩ := hd16 4 41 rfl rfl
 obtain ⟨h42_, r5⟩ := hd16 5 42 rfl rfl
 obtain ⟨h43_, r6⟩ := hd16 6 43 rfl rfl
 obtain ⟨h44_, r7⟩ := hd16 7 44 rfl rfl
 obtain ⟨h45_, r8⟩ := hd16 8 45 rfl rfl
 simp only [show List.range 9 = [0, 1, 2, 3, 4, 5, 6, 7, 8] from rfl, List.flatMap_cons, List.flatMap_nil, List.map_cons, List.map_nil, r0, r1, r2, r3, r4, r5, r6, r7, r8, List.nil_append, List.append_nil, List.cons_append] at hst
 refine RunL.slots (sl := [(39, str _), (45, .int .i64 _)]) ⟨h39_, h45_, trivial⟩ ?_
 clear hs15 hd16 hr18 tab13
 refine CN <| Op1.indexS ty9 rfl rfl (by omega) (by omega) <| AC rfl <| NL <| run_ret1 Try.func83 rfl (TP (v := .int .u8 _) rfl) <| ⟨congrArg (Value.int .u8) (Eq.symm ?_), hst.pure⟩
 unfold restS
 first | exact if_pos (by first | omega | (simp_all <;> omega)) | exact if_neg (by first | omega | (simp_all <;> omega))
theorem R5gr_letter (fm : FormL) (hf : FOk fm) (i : Int) (h1 : i ≤ 9223372036854775807) (w : World) : Ret Try.prog 76 #[.agg #[.int .u16 fm.op, str fm.name, .bool fm.ty, .bool fm.res, str fm.fixed, str fm.rest, .int .i64 fm.most, .int .u8 fm.part], .int .i64 i] w (fun v w' => v = .int .u8 (letterS fm i) ∧ St w NoM [] [] w') := by
 refine Ret.enter (args := [.agg #[.int .u16 fm.op, str fm.name, .bool fm.ty, .bool fm.res, str fm.fixed, str fm.rest, .int .i64 fm.most, .int .u8 fm.part], .int .i64 i]) Try.func76 rfl rfl rfl ?_
 have hst := St.init w
 refine SR <| CN <| Op1.box (v := .agg #[.int .u16 _, str _, .bool _, .bool _, str _, str _, .int .i64 _, .int .u8 _]) hst rfl rfl fun w b2 hst => AC rfl <| NL <| SQ <| SR <| MI rfl <| CN <| Op1.lss rfl rfl <| NL <| run_cond_dec rfl (fun g1 => ?_) (fun g1 => ?_)
 · skip
   refine SR <| AC rfl <| NL <| run_ret1 Try.func76 rfl (TP (v := .int .u8 _) rfl) <| ⟨congrArg (Value.int .u8) (Eq.symm ?_), hst.pure⟩
   unfold letterS
   exact if_pos (by omega)
 refine run_skip <| SQ <| SR <| CN <| Op1.loadA (vs := [.int .u16 _, str _, .bool _, .bool _, str _, str _, .int .i64 _, .int .u8 _]) ty128 rfl rfl rfl (cells_of_obj (n := 8) (hst.objL (.head _)) _ rfl) <| CN <| Op1.makeFunc <| CN <| Op1.loadA (vs := [.int .u16 _, str _, .bool _, .bool _, str _, str _, .int .i64 _, .int .u8 _]) ty128 rfl rfl rfl (cells_of_obj (n := 8) (hst.objL (.head _)) _ rfl) <| CN <| Op1.makeFunc <| CN (Op1.buildSl (z0 := [.nilFunc, .nilFunc]) hst ty134 ty129 rfl rfl (by kernel_rfl) (.c (v := .func _ _ _) rfl (h := (.c (v := .func _ _ _) rfl (h := .nil)))) fun w b14 hst => ?_)
 refine CN <| Op1.lenSl (rest := []) ty134 rfl <| MI rfl <| NL <| run_block <| run_loop <| SR <| CN <| Op1.lss rfl rfl <| NL <| SQ <| run_cond_true (congrArg Value.bool (decide_eq_true (by decide))) <| run_skip <| SQ <| run_block <| SQ ?_
 refine RG <| CN <| Op1.indexSl ty134 ty129 rfl rfl (by omega) (by omega) <| CN <| Op1.load1 (v := .func _ _ _) ty129 rfl rfl (hst.cellL (.head _) rfl) <| CN <| Op1.assign (v := .func _ _ _) rfl <| NSR <| CN <| Op1.move (v := .func _ _ _) rfl <| MI rfl <| CN (Op1.callV1 (v1 := .int .i64 _) rfl rfl (CallV.funcF ent82 ((R5gr_fixed fm hf i (by omega) h1 _).mono fun v w hp => ?_)))
 obtain ⟨rfl, hp⟩ := hp
 replace hst := hst.keepc hp
 clear hp
 refine AC rfl <| NL <| Run.forget [(1, .int .i64 _), (7, .int .u8 _), (14, .slice _ _ _), (15, .int .i64 _), (16, .int .i64 _)] ⟨rfl, rfl, rfl, rfl, rfl, trivial⟩ fun f => SR <| MC rfl <| CN <| Op1.neq rfl rfl <| NL <| run_cond_dec rfl (fun g2 => ?_) (fun g2 => ?_)
 · skip
   refine SR <| MC rfl <| AC rfl <| NL <| run_ret1 Try.func76 rfl (TP (v := .int .u8 _) rfl) ?_
   exact ⟨congrArg (Value.int .u8) (letter_fix hf (by omega) g2).symm, hst.pure⟩
 refine run_skip <| run_inBlock <| RG <| CN <| Op1.addN rfl rfl rfl (wrap_i64 (by omega) (by omega)) <| MI rfl <| NL <| run_inLoop <| SR <| CN <| Op1.lss rfl rfl <| NL <| SQ <| run_cond_true (congrArg Value.bool (decide_eq_true (by decide))) <| run_skip <| SQ ?_
 refine run_block <| SR <| CN <| Op1.indexSl ty134 ty129 rfl rfl (by omega) (by omega) <| CN <| Op1.load1 (v := .func _ _ _) ty129 rfl rfl (hst.cellL (.head _) rfl) <| CN <| Op1.assign (v := .func _ _ _) rfl <| NSR <| CN <| Op1.move (v := .func _ _ _) rfl <| MI rfl <| CN (Op1.callV1 (v1 := .int .i64 _) rfl rfl (CallV.funcF ent83 ((R5gr_rest fm hf i (by omega) h1 _).mono fun v w hp => ?_)))
 obtain ⟨rfl, hp⟩ := hp
 replace hst := hst.keepc hp
 clear hp
 refine AC rfl <| NSR <| MC rfl <| CN <| Op1.neq rfl rfl <| NL <| run_cond_dec rfl (fun g3 => ?_) (fun g3 => ?_)
 · skip
   refine SR <| MC rfl <| AC rfl <| NL <| run_ret1 Try.func76 rfl (TP (v := .int .u8 _) rfl) ?_
   rw [letter_rest hf (by omega) (Classical.not_not.1 g2)]
   exact ⟨rfl, hst.pure⟩
 refine run_skip <| run_inBlock <| RG <| CN <| Op1.addN rfl rfl rfl (wrap_i64 (by omega) (by omega)) <| MI rfl <| NL <| run_inLoop <| SR <| CN <| Op1.lss rfl rfl <| NL <| SQ <| run_cond_false (congrArg Value.bool (decide_eq_false (by decide))) <| run_exit (id := 0) rfl <| SQ ?_
 refine RG <| AC rfl <| NL <| run_ret1 Try.func76 rfl (TP (v := .int .u8 _) rfl) ?_
 rw [letter_rest hf (by omega) (Classical.not_not.1 g2)]
 exact ⟨congrArg (Value.int .u8) (Classical.not_not.1 g3).symm, hst.pure⟩
theorem R5gr_Letter (op : Int) (h0 : 0 ≤ op) (i : Int) (h1 : i ≤ 9223372036854775807) (w : World) : Ret Try.prog 68 #[.int .u16 op, .int .i64 i] w (fun v w' => v = .int .u8 (letterS (refD op) i) ∧ St w NoM [] [] w') := by
 refine Ret.enter (args := [.int .u16 op, .int .i64 i]) Try.func68 rfl rfl rfl ?_
 have hst := St.init w
 refine SR <| AC rfl <| NSR <| MH rfl <| CN <| Op1.call1 (v1 := .int .u16 _) ent58 rfl rfl <| Ret.det (R5gr_Of _ (by omega) _) hst fun w hst => CN <| Op1.move (v := .tuple #[.agg #[.int .u16 _, str _, .bool _, .bool _, str _, str _, .int .i64 _, .int .u8 _], .bool _]) rfl <| CN <| Op1.extract (v := .agg #[.int .u16 _, str _, .bool _, .bool _, str _, str _, .int .i64 _, .int .u8 _]) rfl rfl <| CN <| Op1.extract (v := .bool _) rfl rfl <| CN <| Op1.alloc hst ty74 fun w b5 hst => CN (SO (v := .agg #[.int .u16 _, str _, .bool _, .bool _, str _, str _, .int .i64 _, .int .u8 _]) hst ty74 rfl rfl (.here) fun w hst => ?_)
 refine AB rfl <| NSR <| CN <| Op1.loadA (vs := [.int .u16 _, str _, .bool _, .bool _, str _, str _, .int .i64 _, .int .u8 _]) ty74 rfl rfl rfl (cells_of_obj (n := 8) (hst.objL (.head _)) _ rfl) <| CN (Op1.buildStruct ty128 stf128 (.c (v := .agg #[.int .u16 _, str _, .bool _, .bool _, str _, str _, .int .i64 _, .int .u8 _]) rfl (h := .nil)) ?_)
 refine MI rfl <| CN <| Op1.call2 (v1 := .agg #[.int .u16 _, str _, .bool _, .bool _, str _, str _, .int .i64 _, .int .u8 _]) (v2 := .int .i64 _) ent76 rfl rfl rfl <| Ret.det (R5gr_letter (refD op) (refD_fok op) i h1 _) hst fun w hst => AC rfl <| NL <| run_ret1 Try.func68 rfl (TP (v := .int .u8 _) rfl) ?_
 exact ⟨rfl, hst.pure⟩
end Go.SK
namespace Go.SK
open Go Go.Proofs
theorem ent35 : Enters Try.prog 35 := ⟨Try.f35, _, Try.func35, by kernel_rfl, rfl⟩
end Go.SK
namespace Go.SK
open Go Go.Proofs
open Go.RowKit
theorem R5gr_Of2 {op : Int} {fm : FormL} {ob : Bool} (h0 : 0 ≤ op) (hfm : refD op = fm) (hob : (refS op).isSome = ob) (w : World) : Ret Try.prog 58 #[.int .u16 op] w fun v w' => v = .tuple #[.agg (formC fm).toArray, .bool ob] ∧ St w NoM [] [] w' := by
 subst hfm; subst hob; exact R5gr_Of op h0 w
theorem R5ref_Of2 {op : Int} {fm : FormL} {ob : Bool} (hfm : refD op = fm) (hob : (refS op).isSome = ob) (w : World) : Ret Try.prog 35 #[.int .u16 op] w fun v w' => v = .tuple #[.agg (formC fm).toArray, .bool ob] ∧ St w NoM [] [] w' := by
 subst hfm; subst hob; exact R5ref_Of op w
theorem R5gr_Enum2 {c n : Int} {o : Option NameL} (h : namesL.find? (enN c n) = o) (h0 : 0 ≤ c) (h1 : c ≤ 255) (w : World) : Ret Try.prog 81 #[.int .u8 c, .int .u32 n] w fun v w' => v = nameV o ∧ St w NoM [] [] w' := by
 subst h; exact R5gr_Enum c n h0 h1 w
theorem R5ref_Letter (op : Int) (h0 : 0 ≤ op) (i : Int) (h1 : i ≤ 9223372036854775807) (w : World) : Ret Try.prog 45 #[.int .u16 op, .int .i64 i] w (fun v w' => v = .int .u8 (letterS (refD op) i) ∧ St w NoM [] [] w') := by
 refine Ret.enter (args := [.int .u16 op, .int .i64 i]) Try.func45 rfl rfl rfl ?_
 have hst := St.init w
 obtain ⟨fm, hfm⟩ : ∃ x, refD op = x := ⟨_, rfl⟩
 obtain ⟨ob, hob⟩ : ∃ x, (refS op).isSome = x := ⟨_, rfl⟩
 have hf := refD_fok op
 rw [hfm] at hf
 have hz : ob = false → fm = zeroF := fun e => by subst e; rw [← hfm]; exact refD_none hob
 obtain ⟨_, hmost, hfx, hrs, _, _, _, _⟩ := hf
 have hre : fm.rest = [] ↔ fm.rest.length = 0 := List.length_eq_zero_iff.symm
 refine SR <| AC rfl <| NSR <| MH rfl <| CN <| Op1.call1 (v1 := .int .u16 _) ent35 rfl rfl <| Ret.det (R5ref_Of2 hfm hob _) hst fun w hst => CN <| Op1.move (v := .tuple #[.agg #[.int .u16 _, str _, .bool _, .bool _, str _, str _, .int .i64 _, .int .u8 _], .bool _]) rfl <| CN <| Op1.extract (v := .agg #[.int .u16 _, str _, .bool _, .bool _, str _, str _, .int .i64 _, .int .u8 _]) rfl rfl <| CN <| Op1.extract (v := .bool _) rfl rfl <| CN <| Op1.alloc hst ty74 fun w b5 hst => CN (SO (v := .agg #[.int .u16 _, str _, .bool _, .bool _, str _, str _, .int .i64 _, .int .u8 _]) hst ty74 rfl rfl (.here) fun w hst => ?_)
 refine AB rfl <| NL <| SQ <| SR <| MB rfl <| CN <| Op1.not rfl <| MB rfl <| RunL.split (d := 15) rfl (fun g1 => ?_) (fun g1 => ?_)
 · skip
   refine OM (t := 15) rfl (congrArg Value.bool g1) rfl <| OM (t := 15) rfl (congrArg Value.bool g1) rfl <| CN <| Op1.pickT (u := .bool _) (congrArg Value.bool g1) rfl <| NL <| run_cond_true (congrArg Value.bool (rfl : true = _)) <| SR <| AC rfl <| NL <| run_ret1 Try.func45 rfl (TP (v := .int .u8 _) rfl) <| ⟨congrArg (Value.int .u8) (Eq.symm ?_), hst.pure⟩
   rw [hfm]
   have hzz : fm = zeroF ∨ i < 0 := .inl (hz (by simpa using g1))
   rcases hzz with rfl | hzz
   · exact letter_zero i
   · unfold letterS; rw [if_pos hzz]
 refine TK (t := 15) rfl (congrArg Value.bool g1) <| Op1.move (v := .int .i64 _) rfl <| TK (t := 15) rfl (congrArg Value.bool g1) <| Op1.lss rfl rfl <| CN <| Op1.pickF (u := .bool _) (congrArg Value.bool g1) rfl <| NL <| run_cond_dec rfl (fun g2 => ?_) (fun g2 => ?_)
 · skip
   refine SR <| AC rfl <| NL <| run_ret1 Try.func45 rfl (TP (v := .int .u8 _) rfl) <| ⟨congrArg (Value.int .u8) (Eq.symm ?_), hst.pure⟩
   rw [hfm]
   have hzz : fm = zeroF ∨ i < 0 := .inr (by omega)
   rcases hzz with rfl | hzz
   · exact letter_zero i
   · unfold letterS; rw [if_pos hzz]
 refine run_skip <| SQ <| SR <| MI rfl <| CN <| Op1.fieldAddr fld74_4 rfl <| CN <| Op1.load1 (v := str _) ty9 rfl rfl (hst.cellL (.head _) rfl) <| CN <| Op1.lenS (rest := []) ty9 rfl <| CN <| Op1.lss rfl rfl <| NL <| Run.forget [(1, .int .i64 _), (5, .pointer (some ⟨_, _, none⟩)), (23, .bool _)] ⟨rfl, rfl, rfl, trivial⟩ fun f => run_cond_dec rfl (fun g3 => ?_) (fun g3 => ?_)
 · skip
   refine SR <| CN <| Op1.fieldAddr fld74_4 rfl <| CN <| Op1.load1 (v := str _) ty9 rfl rfl (hst.cellL (.head _) rfl) <| MI rfl <| CN <| Op1.indexS ty9 rfl rfl (by omega) (by omega) <| AC rfl <| NL <| run_ret1 Try.func45 rfl (TP (v := .int .u8 _) rfl) <| ⟨congrArg (Value.int .u8) (Eq.symm ?_), hst.pure⟩
   rw [hfm]
   unfold letterS
   rw [if_neg (by omega), if_pos (by omega)]
 refine run_skip <| SQ <| SR <| CN <| Op1.fieldAddr fld74_5 rfl <| CN <| Op1.load1 (v := str _) ty9 rfl rfl (hst.cellL (.head _) rfl) <| CN <| Op1.lenS (rest := []) ty9 rfl <| CN <| Op1.eql rfl rfl <| NL <| run_cond_dec rfl (fun g4 => ?_) (fun g4 => ?_)
 · skip
   refine SR <| AC rfl <| NL <| run_ret1 Try.func45 rfl (TP (v := .int .u8 _) rfl) <| ⟨congrArg (Value.int .u8) (Eq.symm ?_), hst.pure⟩
   rw [hfm]
   unfold letterS restS
   rw [if_neg (by omega), if_neg (by omega), if_pos (by rw [hre]; omega)]
 refine run_skip <| SR <| MI rfl <| CN <| Op1.fieldAddr fld74_4 rfl <| CN <| Op1.load1 (v := str _) ty9 rfl rfl (hst.cellL (.head _) rfl) <| CN <| Op1.lenS (rest := []) ty9 rfl <| CN <| Op1.subN rfl rfl rfl (wrap_i64 (by omega) (by omega)) <| AI rfl <| NL <| SQ <| SQ ?_
 have hqb := div_bd (a := i - (fm.fixed.length : Int)) (b := (fm.rest.length : Int)) (by omega) (by omega)
 refine RunD.start [] hst (bs := [0, 1, 3, 7, 15, 15, 47, 111, 255, 15, 527, 2047, 4095]) (ds := [some 37, some 38, some 39, some 40, some 41, some 42, some 43, some 44, some 45, some 46, some 47, some 48, some 49]) ⟨by kernel_rfl, by kernel_rfl, by kernel_rfl⟩ (fun tab5 => ?_)
 refine RunD.op (det _) tab5 1 (fun f' L' w' hc => Op1.fieldAddr fld74_6 (hc.old (v := .pointer (some ⟨_, _, none⟩)) rfl rfl rfl) ⟨[], ⟨rfl, rfl⟩, hc.st⟩) <| RunD.op (det _) tab5 2 (fun f' L' w' hc => Op1.load1 (v := .int .i64 _) ty3 rfl (hc.det (j := 0) rfl rfl rfl rfl) (hc.st.cellL (List.mem_append_right _ (.head _)) rfl) ⟨[], ⟨rfl, rfl⟩, hc.st⟩) <| RunD.op (det _) tab5 3 (fun f' L' w' hc => Op1.gtr (hc.det (j := 1) rfl rfl rfl rfl) rfl ⟨[], ⟨rfl, rfl⟩, hc.st⟩) <| RunD.op (det _) tab5 4 (fun f' L' w' hc => Op1.move (v := .bool _) (hc.det (j := 2) rfl rfl rfl rfl) ⟨[], ⟨rfl, rfl⟩, hc.st⟩) <| RunD.splitD (j := 3) rfl (fun g6 => ?_) (fun g6 => ?_)
 · skip
   refine RunD.take (det _) tab5 5 rfl (fun f' L' w' hc => (hc.det (j := 3) rfl rfl rfl rfl).trans (congrArg Value.bool (decide_eq_true g6))) (fun f' L' w' hc => Op1.move (v := .int .i64 _) (hc.old (v := .int .i64 _) rfl rfl rfl) ⟨[], ⟨rfl, rfl⟩, hc.st⟩) <| RunD.take (det _) tab5 6 rfl (fun f' L' w' hc => (hc.det (j := 3) rfl rfl rfl rfl).trans (congrArg Value.bool (decide_eq_true g6))) (fun f' L' w' hc => Op1.fieldAddr fld74_5 (hc.old (v := .pointer (some ⟨_, _, none⟩)) rfl rfl rfl) ⟨[], ⟨rfl, rfl⟩, hc.st⟩) <| RunD.take (det _) tab5 7 rfl (fun f' L' w' hc => (hc.det (j := 3) rfl rfl rfl rfl).trans (congrArg Value.bool (decide_eq_true g6))) (fun f' L' w' hc => Op1.load1 (v := str _) ty9 rfl (hc.det (j := 5) rfl rfl rfl rfl) (hc.st.cellL (List.mem_append_right _ (.head _)) rfl) ⟨[], ⟨rfl, rfl⟩, hc.st⟩) <| RunD.take (det _) tab5 8 rfl (fun f' L' w' hc => (hc.det (j := 3) rfl rfl rfl rfl).trans (congrArg Value.bool (decide_eq_true g6))) (fun f' L' w' hc => Op1.lenS (rest := []) ty9 (hc.det (j := 6) rfl rfl rfl rfl) ⟨[], ⟨rfl, rfl⟩, hc.st⟩) ?_
   first | refine RunD.take (det _) tab5 9 rfl (fun f' L' w' hc => (hc.det (j := 3) rfl rfl rfl rfl).trans (congrArg Value.bool (decide_eq_true g6))) (fun f' L' w' hc => Op1.quoN (hc.det (j := 4) rfl rfl rfl rfl) (hc.det (j := 7) rfl rfl rfl rfl) (by omega) (by omega) rfl (wrap_i64 (by omega) (by omega)) ⟨[], ⟨rfl, rfl⟩, hc.st⟩) ?_ | refine RunD.take (det _) tab5 9 rfl (fun f' L' w' hc => (hc.det (j := 3) rfl rfl rfl rfl).trans (congrArg Value.bool (decide_eq_true g6))) (fun f' L' w' hc => Op1.quo (hc.det (j := 4) rfl rfl rfl rfl) (hc.det (j := 7) rfl rfl rfl rfl) (by omega) ⟨[], ⟨rfl, rfl⟩, hc.st⟩) ?_
   refine RunD.take (det _) tab5 10 rfl (fun f' L' w' hc => (hc.det (j := 3) rfl rfl rfl rfl).trans (congrArg Value.bool (decide_eq_true g6))) (fun f' L' w' hc => Op1.fieldAddr fld74_6 (hc.old (v := .pointer (some ⟨_, _, none⟩)) rfl rfl rfl) ⟨[], ⟨rfl, rfl⟩, hc.st⟩) <| RunD.take (det _) tab5 11 rfl (fun f' L' w' hc => (hc.det (j := 3) rfl rfl rfl rfl).trans (congrArg Value.bool (decide_eq_true g6))) (fun f' L' w' hc => Op1.load1 (v := .int .i64 _) ty3 rfl (hc.det (j := 9) rfl rfl rfl rfl) (hc.st.cellL (List.mem_append_right _ (.head _)) rfl) ⟨[], ⟨rfl, rfl⟩, hc.st⟩) <| RunD.fin followsMixed tab5 hst rfl (fun f7 w R10 hs8 hd9 hr11 hst => ?_)
   obtain ⟨h37_, r0⟩ := hd9 0 37 rfl rfl
   obtain ⟨h38_, r1⟩ := hd9 1 38 rfl rfl
   obtain ⟨h39_, r2⟩ := hd9 2 39 rfl rfl
   obtain ⟨h40_, r3⟩ := hd9 3 40 rfl rfl
   obtain ⟨h41_, r4⟩ := hd9 4 41 rfl rfl
   obtain ⟨h42_, r5⟩ := hd9 5 42 rfl rfl
   obtain ⟨h43_, r6⟩ := hd9 6 43 rfl rfl
   obtain ⟨h44_, r7⟩ := hd9 7 44 rfl rfl
   obtain ⟨h45_, r8⟩ := hd9 8 45 rfl rfl
   obtain ⟨h46_, r9⟩ := hd9 9 46 rfl rfl
   obtain ⟨h47_, r10⟩ := hd9 10 47 rfl rfl
   simp only [show List.range 11 = [0, 1, 2, 3, 4, 5, 6, 7, 8, 9, 10] from rfl, List.flatMap_cons, List.flatMap_nil, List.map_cons, List.map_nil, r0, r1, r2, r3, r4, r5, r6, r7, r8, r9, r10, List.nil_append, List.append_nil, List.cons_append] at hst
   refine RunL.slots (sl := [(5, .pointer (some ⟨_, _, none⟩)), (7, .int .i64 _), (40, .bool _), (45, .int .i64 _), (47, .int .i64 _)]) ⟨(hs8 5 rfl).trans rfl, (hs8 7 rfl).trans rfl, h40_, h45_, h47_, trivial⟩ ?_
   clear hs8 hd9 hr11 tab5
   refine TK (t := 40) rfl (congrArg Value.bool (decide_eq_true g6)) <| Op1.geq rfl rfl <| CN <| Op1.pickT (u := .bool _) (congrArg Value.bool (decide_eq_true g6)) rfl <| NL <| Run.forget [(5, .pointer (some ⟨_, _, none⟩)), (7, .int .i64 _), (49, .bool _)] ⟨rfl, rfl, rfl, trivial⟩ fun f => run_cond_dec rfl (fun g12 => ?_) (fun g12 => ?_)
   · skip
     refine SR <| AC rfl <| NL <| run_ret1 Try.func45 rfl (TP (v := .int .u8 _) rfl) <| ⟨congrArg (Value.int .u8) (Eq.symm ?_), hst.pure⟩
     rw [hfm]
     unfold letterS restS
     rw [if_neg (by omega), if_neg (by omega)]
     have hmd := most_div (k := i - (fm.fixed.length : Int)) (r := (fm.rest.length : Int)) (m := fm.most) (by omega)
     first | rw [if_pos (by rw [hre]; omega)] | rw [if_neg (by rw [hre]; omega)]
   have hmdd := Int.emod_lt_of_pos (i - (fm.fixed.length : Int)) (show (0 : Int) < fm.rest.length by omega)
   have hmnn := Int.emod_nonneg (i - (fm.fixed.length : Int)) (show (fm.rest.length : Int) ≠ 0 by omega)
   refine run_skip <| SQ <| RunD.start [] hst (bs := [0, 1, 0, 0, 8, 24, 60, 127, 255]) (ds := [some 50, some 51, some 52, some 53, some 54, some 55, some 56, some 57, some 4]) ⟨by kernel_rfl, by kernel_rfl, by kernel_rfl⟩ (fun tab13 => ?_)
   refine RunD.op (det _) tab13 1 (fun f' L' w' hc => Op1.fieldAddr fld74_5 (hc.old (v := .pointer (some ⟨_, _, none⟩)) rfl rfl rfl) ⟨[], ⟨rfl, rfl⟩, hc.st⟩) <| RunD.op (det _) tab13 2 (fun f' L' w' hc => Op1.load1 (v := str _) ty9 rfl (hc.det (j := 0) rfl rfl rfl rfl) (hc.st.cellL (List.mem_append_right _ (.head _)) rfl) ⟨[], ⟨rfl, rfl⟩, hc.st⟩) <| RunD.op (det _) tab13 3 (fun f' L' w' hc => Op1.move (v := .int .i64 _) (hc.old (v := .int .i64 _) rfl rfl rfl) ⟨[], ⟨rfl, rfl⟩, hc.st⟩) <| RunD.op (det _) tab13 4 (fun f' L' w' hc => Op1.fieldAddr fld74_5 (hc.old (v := .pointer (some ⟨_, _, none⟩)) rfl rfl rfl) ⟨[], ⟨rfl, rfl⟩, hc.st⟩) <| RunD.op (det _) tab13 5 (fun f' L' w' hc => Op1.load1 (v := str _) ty9 rfl (hc.det (j := 3) rfl rfl rfl rfl) (hc.st.cellL (List.mem_append_right _ (.head _)) rfl) ⟨[], ⟨rfl, rfl⟩, hc.st⟩) <| RunD.op (det _) tab13 6 (fun f' L' w' hc => Op1.lenS (rest := []) ty9 (hc.det (j := 4) rfl rfl rfl rfl) ⟨[], ⟨rfl, rfl⟩, hc.st⟩) ?_
   first | refine RunD.op (det _) tab13 7 (fun f' L' w' hc => Op1.remN (hc.det (j := 2) rfl rfl rfl rfl) (hc.det (j := 5) rfl rfl rfl rfl) (by omega) (by omega) rfl ⟨[], ⟨rfl, rfl⟩, hc.st⟩) ?_ | refine RunD.op (det _) tab13 7 (fun f' L' w' hc => Op1.rem (hc.det (j := 2) rfl rfl rfl rfl) (hc.det (j := 5) rfl rfl rfl rfl) (by omega) ⟨[], ⟨rfl, rfl⟩, hc.st⟩) ?_
   refine RunD.fin followsMixed tab13 hst rfl (fun f14 w R17 hs15 hd16 hr18 hst => ?_)
   obtain ⟨h50_, r0⟩ := hd16 0 50 rfl rfl
   obtain ⟨h51_, r1⟩ := hd16 1 51 rfl rfl
   obtain ⟨h52_, r2⟩ := hd16 2 52 rfl rfl
   obtain ⟨h53_, r3⟩ := hd16 3 53 rfl rfl
   obtain ⟨h54_, r4⟩ := hd16 4 54 rfl rfl
   obtain ⟨h55_, r5⟩ := hd16 5 55 rfl rfl
   obtain ⟨h56_, r6⟩ := hd16 6 56 rfl rfl
   simp only [show List.range 7 = [0, 1, 2, 3, 4, 5, 6] from rfl, List.flatMap_cons, List.flatMap_nil, List.map_cons, List.map_nil, r0, r1, r2, r3, r4, r5, r6, List.nil_append, List.append_nil, List.cons_append] at hst
   refine RunL.slots (sl := [(51, str _), (56, .int .i64 _)]) ⟨h51_, h56_, trivial⟩ ?_
   clear hs15 hd16 hr18 tab13
   refine CN <| Op1.indexS ty9 rfl rfl (by omega) (by omega) <| AC rfl <| NL <| run_ret1 Try.func45 rfl (TP (v := .int .u8 _) rfl) <| ⟨congrArg (Value.int .u8) (Eq.symm ?_), hst.pure⟩
   rw [hfm]
   unfold letterS restS
   rw [if_neg (by omega), if_neg (by omega)]
   have hmd := most_div (k := i - (fm.fixed.length : Int)) (r := (fm.rest.length : Int)) (m := fm.most) (by omega)
   first | rw [if_pos (by rw [hre]; omega)] | rw [if_neg (by rw [hre]; omega)]
 refine RunD.omit tab5 5 rfl rfl (fun f' L' w' hc => (hc.det (j := 3) rfl rfl rfl rfl).trans (congrArg Value.bool (decide_eq_false g6))) <| RunD.omit tab5 6 rfl rfl (fun f' L' w' hc => (hc.det (j := 3) rfl rfl rfl rfl).trans (congrArg Value.bool (decide_eq_false g6))) <| RunD.omit tab5 7 rfl rfl (fun f' L' w' hc => (hc.det (j := 3) rfl rfl rfl rfl).trans (congrArg Value.bool (decide_eq_false g6))) <| RunD.omit tab5 8 rfl rfl (fun f' L' w' hc => (hc.det (j := 3) rfl rfl rfl rfl).trans (congrArg Value.bool (decide_eq_false g6))) <| RunD.omit tab5 9 rfl rfl (fun f' L' w' hc => (hc.det (j := 3) rfl rfl rfl rfl).trans (congrArg Value.bool (decide_eq_false g6))) <| RunD.omit tab5 10 rfl rfl (fun f' L' w' hc => (hc.det (j := 3) rfl rfl rfl rfl).trans (congrArg Value.bool (decide_eq_false g6))) <| RunD.omit tab5 11 rfl rfl (fun f' L' w' hc => (hc.det (j := 3) rfl rfl rfl rfl).trans (congrArg Value.bool (decide_eq_false g6))) <| RunD.fin followsMixed tab5 hst rfl (fun f19 w R22 hs20 hd21 hr23 hst => ?_)
 obtain ⟨h37_, r0⟩ := hd21 0 37 rfl rfl
 obtain ⟨h38_, r1⟩ := hd21 1 38 rfl rfl
 obtain ⟨h39_, r2⟩ := hd21 2 39 rfl rfl
 obtain ⟨h40_, r3⟩ := hd21 3 40 rfl rfl
 obtain ⟨h41_, r4⟩ := hd21 4 41 rfl rfl
 obtain ⟨h42_, r5⟩ := hd21 5 42 rfl rfl
 obtain ⟨h43_, r6⟩ := hd21 6 43 rfl rfl
 obtain ⟨h44_, r7⟩ := hd21 7 44 rfl rfl
 obtain ⟨h45_, r8⟩ := hd21 8 45 rfl rfl
 obtain ⟨h46_, r9⟩ := hd21 9 46 rfl rfl
 obtain ⟨h47_, r10⟩ := hd21 10 47 rfl rfl
 simp only [show List.range 11 = [0, 1, 2, 3, 4, 5, 6, 7, 8, 9, 10] from rfl, List.flatMap_cons, List.flatMap_nil, List.map_cons, List.map_nil, r0, r1, r2, r3, r4, r5, r6, r7, r8, r9, r10, List.nil_append, List.append_nil, List.cons_append] at hst
 refine RunL.slots (sl := [(5, .pointer (some ⟨_, _, none⟩)), (7, .int .i64 _), (40, .bool _), (45, _), (47, _)]) ⟨(hs20 5 rfl).trans rfl, (hs20 7 rfl).trans rfl, h40_, h45_, h47_, trivial⟩ ?_
 clear hs20 hd21 hr23 tab5
 refine OM (t := 40) rfl (congrArg Value.bool (decide_eq_false g6)) rfl <| CN <| Op1.pickF (u := .bool _) (congrArg Value.bool (decide_eq_false g6)) rfl <| NL ?_
 have hmdd := Int.emod_lt_of_pos (i - (fm.fixed.length : Int)) (show (0 : Int) < fm.rest.length by omega)
 have hmnn := Int.emod_nonneg (i - (fm.fixed.length : Int)) (show (fm.rest.length : Int) ≠ 0 by omega)
 refine run_cond_false (congrArg Value.bool (rfl : false = _)) <| run_skip <| SQ <| RunD.start [] hst (bs := [0, 1, 0, 0, 8, 24, 60, 127, 255]) (ds := [some 50, some 51, some 52, some 53, some 54, some 55, some 56, some 57, some 4]) ⟨by kernel_rfl, by kernel_rfl, by kernel_rfl⟩ (fun tab24 => ?_)
 refine RunD.op (det _) tab24 1 (fun f' L' w' hc => Op1.fieldAddr fld74_5 (hc.old (v := .pointer (some ⟨_, _, none⟩)) rfl rfl rfl) ⟨[], ⟨rfl, rfl⟩, hc.st⟩) <| RunD.op (det _) tab24 2 (fun f' L' w' hc => Op1.load1 (v := str _) ty9 rfl (hc.det (j := 0) rfl rfl rfl rfl) (hc.st.cellL (List.mem_append_right _ (.head _)) rfl) ⟨[], ⟨rfl, rfl⟩, hc.st⟩) <| RunD.op (det _) tab24 3 (fun f' L' w' hc => Op1.move (v := .int .i64 _) (hc.old (v := .int .i64 _) rfl rfl rfl) ⟨[], ⟨rfl, rfl⟩, hc.st⟩) <| RunD.op (det _) tab24 4 (fun f' L' w' hc => Op1.fieldAddr fld74_5 (hc.old (v := .pointer (some ⟨_, _, none⟩)) rfl rfl rfl) ⟨[], ⟨rfl, rfl⟩, hc.st⟩) <| RunD.op (det _) tab24 5 (fun f' L' w' hc => Op1.load1 (v := str _) ty9 rfl (hc.det (j := 3) rfl rfl rfl rfl) (hc.st.cellL (List.mem_append_right _ (.head _)) rfl) ⟨[], ⟨rfl, rfl⟩, hc.st⟩) <| RunD.op (det _) tab24 6 (fun f' L' w' hc => Op1.lenS (rest := []) ty9 (hc.det (j := 4) rfl rfl rfl rfl) ⟨[], ⟨rfl, rfl⟩, hc.st⟩) ?_
 first | refine RunD.op (det _) tab24 7 (fun f' L' w' hc => Op1.remN (hc.det (j := 2) rfl rfl rfl rfl) (hc.det (j := 5) rfl rfl rfl rfl) (by omega) (by omega) rfl ⟨[], ⟨rfl, rfl⟩, hc.st⟩) ?_ | refine RunD.op (det _) tab24 7 (fun f' L' w' hc => Op1.rem (hc.det (j := 2) rfl rfl rfl rfl) (hc.det (j := 5) rfl rfl rfl rfl) (by omega) ⟨[], ⟨rfl, rfl⟩, hc.st⟩) ?_
 refine RunD.fin followsMixed tab24 hst rfl (fun f25 w R28 hs26 hd27 hr29 hst => ?_)
 obtain ⟨h50_, r0⟩ := hd27 0 50 rfl rfl
 obtain ⟨h51_, r1⟩ := hd27 1 51 rfl rfl
 obtain ⟨h52_, r2⟩ := hd27 2 52 rfl rfl
 obtain ⟨h53_, r3⟩ := hd27 3 53 rfl rfl
 obtain ⟨h54_, r4⟩ := hd27 4 54 rfl rfl
 obtain ⟨h55_, r5⟩ := hd27 5 55 rfl rfl
 obtain ⟨h56_, r6⟩ := hd27 6 56 rfl rfl
 simp only [show List.range 7 = [0, 1, 2, 3, 4, 5, 6] from rfl, List.flatMap_cons, List.flatMap_nil, List.map_cons, List.map_nil, r0, r1, r2, r3, r4, r5, r6, List.nil_append, List.append_nil, List.cons_append] at hst
 refine RunL.slots (sl := [(51, str _), (56, .int .i64 _)]) ⟨h51_, h56_, trivial⟩ ?_
 clear hs26 hd27 hr29 tab24
 refine CN <| Op1.indexS ty9 rfl rfl (by omega) (by omega) <| AC rfl <| NL <| run_ret1 Try.func45 rfl (TP (v := .int .u8 _) rfl) <| ⟨congrArg (Value.int .u8) (Eq.symm ?_), hst.pure⟩
 rw [hfm]
 unfold letterS restS
 rw [if_neg (by omega), if_neg (by omega)]
 have hmd := most_div (k := i - (fm.fixed.length : Int)) (r := (fm.rest.length : Int)) (m := fm.most) (by omega)
 first | rw [if_pos (by rw [hre]; omega)] | rw [if_neg (by rw [hre]; omega)]
end Go.SK
namespace Go.SK
open Go Go.Proofs
theorem ty124 : TyF Try.prog 124 (.slice 5) 1 24 [.slice none 0 0] := TyF.of (by kernel_rfl) (by kernel_rfl)
theorem ent69 : Enters Try.prog 69 := ⟨Try.f69, _, Try.func69, by kernel_rfl, rfl⟩
end Go.SK
namespace Go.SK
open Go Go.Proofs
open Go.RowKit
theorem R5gr_Fits (op : Int) (h0 : 0 ≤ op) (ks : List Int) (ao : Option Addr) (cp : Nat) (w : World) (hA : (Res.rs ao ks.length 1 (ks.flatMap u8C)).holds w) (hlen : ks.length ≤ 9000000000000000000) : Ret Try.prog 72 #[.int .u16 op, .slice ao ks.length cp] w (fun v w' => v = fitsV (fitsS op ks) ∧ St w NoM [] [] w') := by
 refine Ret.enter (args := [.int .u16 op, .slice ao ks.length cp]) Try.func72 rfl rfl rfl ?_
 have hst : St w NoM [] [Res.rs ao ks.length 1 (ks.flatMap u8C)] w := St.init_D hA
 clear hA
 obtain ⟨fm, hfm⟩ : ∃ x, refD op = x := ⟨_, rfl⟩
 obtain ⟨ob, hob⟩ : ∃ x, (refS op).isSome = x := ⟨_, rfl⟩
 have hf := refD_fok op
 rw [hfm] at hf
 have hz : ob = false → fm = zeroF := fun e => by subst e; rw [← hfm]; exact refD_none hob
 obtain ⟨hop, hmost, hfx, hrs, _, _, _, _⟩ := hf
 refine SR <| AI rfl <| AB rfl <| NSR <| MH rfl <| CN <| Op1.call1 (v1 := .int .u16 _) ent58 rfl rfl <| Ret.det (R5gr_Of2 (by omega) hfm hob _) hst fun w hst => CN <| Op1.move (v := .tuple #[.agg #[.int .u16 _, str _, .bool _, .bool _, str _, str _, .int .i64 _, .int .u8 _], .bool _]) rfl <| CN <| Op1.extract (v := .agg #[.int .u16 _, str _, .bool _, .bool _, str _, str _, .int .i64 _, .int .u8 _]) rfl rfl <| CN <| Op1.extract (v := .bool _) rfl rfl <| CN <| Op1.alloc hst ty74 fun w b6 hst => CN (SO (v := .agg #[.int .u16 _, str _, .bool _, .bool _, str _, str _, .int .i64 _, .int .u8 _]) hst ty74 rfl rfl (.here) fun w hst => ?_)
 refine AB rfl <| NL <| SQ <| SR <| MB rfl <| CN <| Op1.not rfl <| NL <| run_cond_split rfl (fun g1 => ?_) (fun g1 => ?_)
 · skip
   refine SR <| AI rfl <| AB rfl <| NL <| run_ret2 Try.func72 rfl (TP (v := .int .i64 _) rfl) (TP (v := .bool _) rfl) ?_
   exact ⟨(congrArg fitsV (fits_no hob (by simpa using g1))).symm, hst.pure⟩
 refine run_skip <| SR <| CN <| Op1.loadA (vs := [.int .u16 _, str _, .bool _, .bool _, str _, str _, .int .i64 _, .int .u8 _]) ty74 rfl rfl rfl (cells_of_obj (n := 8) (hst.objL (.head _)) _ rfl) <| CN (Op1.buildStruct ty128 stf128 (.c (v := .agg #[.int .u16 _, str _, .bool _, .bool _, str _, str _, .int .i64 _, .int .u8 _]) rfl (h := .nil)) ?_)
 refine CN <| Op1.alloc hst ty128 fun w b8 hst => CN (SO (v := .agg #[.int .u16 _, str _, .bool _, .bool _, str _, str _, .int .i64 _, .int .u8 _]) hst ty128 rfl rfl (.here) fun w hst => ?_)
 refine NL <| SQ <| SR <| ML rfl <| CN <| Op1.lenSl (rest := []) ty124 rfl <| MI rfl <| NL <| run_block <| run_loop <| Run.indW [(1, .slice _ _ _), (8, .pointer (some ⟨_, _, none⟩)), (21, .slice _ _ _), (22, .int .i64 _)] ⟨rfl, rfl, rfl, rfl, trivial⟩ (fun (i : Nat) => [(23, .int .i64 (i : Int))]) (fun (i : Nat) => []) (fun (i : Nat) => i ≤ ks.length ∧ badI fm i (ks.drop i) = badI fm 0 ks) (fun (i : Nat) => ks.length - i) (0) hst ⟨Nat.zero_le _, rfl⟩ ⟨rfl, trivial⟩ ?_
 intro i f w hst hJ ih2
 refine SR <| CN <| Op1.lss rfl rfl <| NL <| SQ <| run_cond_dec rfl (fun g3 => ?_) (fun g3 => ?_)
 · skip
   refine run_skip <| SQ <| run_block <| SR <| MI rfl ?_
   obtain ⟨bs4, os5, rfl⟩ := Res.rs_some (hst.hD _ (.head _)) (by omega)
   refine CN <| Op1.indexSl ty124 ty5 rfl rfl (by omega) (by omega) <| CN <| Op1.load1 (v := .int .u8 _) ty5 rfl rfl (Res.rs_cell (hst.hD _ (.head _)) (flat_cell0 (g := u8C) (d := 0) u8C_len rfl (by omega))) <| AI rfl <| AC rfl <| NSR <| MC rfl <| CN <| Op1.eql rfl rfl <| MB rfl <| RunL.splitD (d := 30) rfl (fun g6 => ?_) (fun g6 => ?_)
   · skip
     refine OM (t := 30) rfl (congrArg Value.bool (decide_eq_true g6)) rfl <| OM (t := 30) rfl (congrArg Value.bool (decide_eq_true g6)) rfl <| OM (t := 30) rfl (congrArg Value.bool (decide_eq_true g6)) rfl <| OM (t := 30) rfl (congrArg Value.bool (decide_eq_true g6)) rfl <| OM (t := 30) rfl (congrArg Value.bool (decide_eq_true g6)) rfl <| OM (t := 30) rfl (congrArg Value.bool (decide_eq_true g6)) rfl <| CN <| Op1.pickT (u := .bool _) (congrArg Value.bool (decide_eq_true g6)) rfl <| NL <| run_cond_true (congrArg Value.bool (rfl : true = _)) <| SR <| MI rfl <| AI rfl <| AB rfl <| NL ?_
     refine run_ret2 Try.func72 rfl (TP (v := .int .i64 _) rfl) (TP (v := .bool _) rfl) ?_
     exact ⟨(congrArg fitsV ((fits_yes hob hfm (by simpa using g1)).trans (fitsF_bad (bad_hit hJ.2 (by omega) (.inl g6))))).symm, hst.pure⟩
   refine TK (t := 30) rfl (congrArg Value.bool (decide_eq_false g6)) <| Op1.loadA (vs := [.int .u16 _, str _, .bool _, .bool _, str _, str _, .int .i64 _, .int .u8 _]) ty128 rfl rfl rfl (cells_of_obj (n := 8) (hst.objL (.head _)) _ rfl) <| TK (t := 30) rfl (congrArg Value.bool (decide_eq_false g6)) <| Op1.move (v := .int .i64 _) rfl <| TK (t := 30) rfl (congrArg Value.bool (decide_eq_false g6)) (Op1.call2 (v1 := .agg #[.int .u16 _, str _, .bool _, .bool _, str _, str _, .int .i64 _, .int .u8 _]) (v2 := .int .i64 _) ent76 rfl rfl rfl ((R5gr_letter fm (by rw [← hfm]; exact refD_fok op) _ (by omega) _).mono fun v w hp => ?_))
   obtain ⟨rfl, hp⟩ := hp
   replace hst := hst.keepc hp
   clear hp
   refine TK (t := 30) rfl (congrArg Value.bool (decide_eq_false g6)) (Op1.call1 (v1 := .int .u8 _) ent69 rfl rfl ((R5gr_Kind _ _).mono fun v w hp => ?_))
   obtain ⟨rfl, hp⟩ := hp
   replace hst := hst.keepc hp
   clear hp
   refine TK (t := 30) rfl (congrArg Value.bool (decide_eq_false g6)) <| Op1.move (v := .int .u8 _) rfl <| TK (t := 30) rfl (congrArg Value.bool (decide_eq_false g6)) <| Op1.neq rfl rfl <| CN <| Op1.pickF (u := .bool _) (congrArg Value.bool (decide_eq_false g6)) rfl <| NL <| run_cond_dec rfl (fun g7 => ?_) (fun g7 => ?_)
   · skip
     refine SR <| MI rfl <| AI rfl <| AB rfl <| NL <| run_ret2 Try.func72 rfl (TP (v := .int .i64 _) rfl) (TP (v := .bool _) rfl) ?_
     exact ⟨(congrArg fitsV ((fits_yes hob hfm (by simpa using g1)).trans (fitsF_bad (bad_hit hJ.2 (by omega) (.inr g7))))).symm, hst.pure⟩
   refine run_skip <| run_inBlock <| RG <| CN <| Op1.addN rfl rfl rfl (wrap_i64 (by omega) (by omega)) <| MI rfl <| NL <| run_inLoop ?_
   exact ih2 (i + 1) _ w (by omega) hst (⟨by omega, bad_miss hJ.2 (by omega) (fun h => h.elim g6 g7)⟩) ⟨rfl, rfl, rfl, rfl, trivial⟩ ⟨(congrArg (Value.int .i64) (by omega)), trivial⟩
 refine run_exit (id := 0) rfl <| SR <| ML rfl <| CN <| Op1.lenSl (rest := []) ty124 rfl <| CN <| Op1.fieldAddr fld128_0 rfl <| CN <| Op1.fieldAddr fld74_4 rfl <| CN <| Op1.load1 (v := str _) ty9 rfl rfl (hst.cellL (.head _) rfl) <| CN <| Op1.lenS (rest := []) ty9 rfl <| CN <| Op1.subN rfl rfl rfl (wrap_i64 (by omega) (by omega)) <| AI rfl <| NL <| SQ <| SQ <| RG ?_
 refine MI rfl <| CN <| Op1.lss rfl rfl <| MB rfl <| RunL.splitD (d := 49) rfl (fun g8 => ?_) (fun g8 => ?_)
 · skip
   refine OM (t := 49) rfl (congrArg Value.bool (decide_eq_true g8)) rfl <| OM (t := 49) rfl (congrArg Value.bool (decide_eq_true g8)) rfl <| OM (t := 49) rfl (congrArg Value.bool (decide_eq_true g8)) rfl <| OM (t := 49) rfl (congrArg Value.bool (decide_eq_true g8)) rfl <| OM (t := 49) rfl (congrArg Value.bool (decide_eq_true g8)) rfl <| RunL.omitU (t := 54) rfl rfl <| RunL.omitU (t := 54) rfl rfl <| RunL.omitU (t := 54) rfl rfl <| RunL.omitU (t := 54) rfl rfl <| RunL.omitU (t := 54) rfl rfl <| RunL.omitU (t := 54) rfl rfl <| RunL.omitU (t := 54) rfl rfl <| OM (t := 49) rfl (congrArg Value.bool (decide_eq_true g8)) rfl <| CN <| Op1.pickT (u := .bool _) (congrArg Value.bool (decide_eq_true g8)) rfl <| NL ?_
   refine run_cond_true (congrArg Value.bool (rfl : true = _)) <| SR <| ML rfl <| CN <| Op1.lenSl (rest := []) ty124 rfl <| AI rfl <| AB rfl <| NL <| run_ret2 Try.func72 rfl (TP (v := .int .i64 _) rfl) (TP (v := .bool _) rfl) ?_
   exact ⟨(congrArg fitsV ((fits_yes hob hfm (by simpa using g1)).trans (fitsF_off (bad_end hJ.2 (by omega)) (by simp only [offR]; exact .inl (by omega))))).symm, hst.pure⟩
 refine TK (t := 49) rfl (congrArg Value.bool (decide_eq_false g8)) <| Op1.fieldAddr fld128_0 rfl <| TK (t := 49) rfl (congrArg Value.bool (decide_eq_false g8)) <| Op1.fieldAddr fld74_5 rfl <| TK (t := 49) rfl (congrArg Value.bool (decide_eq_false g8)) <| Op1.load1 (v := str _) ty9 rfl rfl (hst.cellL (.head _) rfl) <| TK (t := 49) rfl (congrArg Value.bool (decide_eq_false g8)) <| Op1.neqS rfl rfl <| TK (t := 49) rfl (congrArg Value.bool (decide_eq_false g8)) <| Op1.move (v := .bool _) rfl <| RunL.splitD (d := 54) rfl (fun g9 => ?_) (fun g9 => ?_)
 · skip
   have hrp : 0 < fm.rest.length := List.length_pos_iff.2 g9
   refine TK (t := 54) rfl (congrArg Value.bool (decide_eq_true g9)) <| Op1.move (v := .int .i64 _) rfl <| TK (t := 54) rfl (congrArg Value.bool (decide_eq_true g9)) <| Op1.fieldAddr fld128_0 rfl <| TK (t := 54) rfl (congrArg Value.bool (decide_eq_true g9)) <| Op1.fieldAddr fld74_5 rfl <| TK (t := 54) rfl (congrArg Value.bool (decide_eq_true g9)) <| Op1.load1 (v := str _) ty9 rfl rfl (hst.cellL (.head _) rfl) <| TK (t := 54) rfl (congrArg Value.bool (decide_eq_true g9)) (Op1.lenS (rest := []) ty9 rfl ?_)
   first | refine TK (t := 54) rfl (congrArg Value.bool (decide_eq_true g9)) (Op1.remN rfl rfl (by omega) (by omega) rfl ?_) | refine TK (t := 54) rfl (congrArg Value.bool (decide_eq_true g9)) (Op1.rem rfl rfl (by omega) ?_)
   refine TK (t := 54) rfl (congrArg Value.bool (decide_eq_true g9)) <| Op1.neq rfl rfl <| TK (t := 49) rfl (congrArg Value.bool (decide_eq_false g8)) <| Op1.pickT (u := .bool _) (congrArg Value.bool (decide_eq_true g9)) rfl <| CN <| Op1.pickF (u := .bool _) (congrArg Value.bool (decide_eq_false g8)) rfl <| NL <| Run.forget [(1, .slice _ _ _), (63, .bool _)] ⟨rfl, rfl, trivial⟩ fun f => run_cond_dec rfl (fun g10 => ?_) (fun g10 => ?_)
   · skip
     refine SR <| ML rfl <| CN <| Op1.lenSl (rest := []) ty124 rfl <| AI rfl <| AB rfl <| NL <| run_ret2 Try.func72 rfl (TP (v := .int .i64 _) rfl) (TP (v := .bool _) rfl) ?_
     exact ⟨(congrArg fitsV ((fits_yes hob hfm (by simpa using g1)).trans (fitsF_off (bad_end hJ.2 (by omega)) (by simp only [offR]; exact .inr ⟨g9, g10⟩)))).symm, hst.pure⟩
   refine run_skip <| SR <| AI rfl <| AB rfl <| NL <| run_ret2 Try.func72 rfl (TP (v := .int .i64 _) rfl) (TP (v := .bool _) rfl) ?_
   exact ⟨(congrArg fitsV ((fits_yes hob hfm (by simpa using g1)).trans (fitsF_on (bad_end hJ.2 (by omega)) (by simp only [offR]; exact fun h => h.elim (by omega) (fun h => g10 h.2))))).symm, hst.pure⟩
 refine OM (t := 54) rfl (congrArg Value.bool (decide_eq_false g9)) rfl <| OM (t := 54) rfl (congrArg Value.bool (decide_eq_false g9)) rfl <| OM (t := 54) rfl (congrArg Value.bool (decide_eq_false g9)) rfl <| OM (t := 54) rfl (congrArg Value.bool (decide_eq_false g9)) rfl <| OM (t := 54) rfl (congrArg Value.bool (decide_eq_false g9)) rfl <| OM (t := 54) rfl (congrArg Value.bool (decide_eq_false g9)) rfl <| OM (t := 54) rfl (congrArg Value.bool (decide_eq_false g9)) rfl <| TK (t := 49) rfl (congrArg Value.bool (decide_eq_false g8)) <| Op1.pickF (u := .bool _) (congrArg Value.bool (decide_eq_false g9)) rfl <| CN <| Op1.pickF (u := .bool _) (congrArg Value.bool (decide_eq_false g8)) rfl <| NL <| Run.forget [(1, .slice _ _ _), (63, .bool _)] ⟨rfl, rfl, trivial⟩ fun f => run_cond_false (congrArg Value.bool (rfl : false = _)) <| run_skip <| SQ <| RG ?_
 refine AI rfl <| AB rfl <| NL <| run_ret2 Try.func72 rfl (TP (v := .int .i64 _) rfl) (TP (v := .bool _) rfl) ?_
 exact ⟨(congrArg fitsV ((fits_yes hob hfm (by simpa using g1)).trans (fitsF_on (bad_end hJ.2 (by omega)) (by simp only [offR]; exact fun h => h.elim (by omega) (fun h => g9 h.1))))).symm, hst.pure⟩
theorem R5ref_Letter2 {op : Int} {fm : FormL} (h0 : 0 ≤ op) (hfm : refD op = fm) (i : Int) (h1 : i ≤ 9223372036854775807) (w : World) : Ret Try.prog 45 #[.int .u16 op, .int .i64 i] w fun v w' => v = .int .u8 (letterS fm i) ∧ St w NoM [] [] w' := by
 subst hfm; exact R5ref_Letter op h0 i h1 w
end Go.SK
namespace Go.SK
open Go Go.Proofs
theorem fld39_0 : FldF Try.prog 39 0 0 := FldF.of (n := 0) (by kernel_rfl)
theorem ty33 : TyF Try.prog 33 (.int .u16) 1 2 [.int .u16 0] := TyF.of (by kernel_rfl) (by kernel_rfl)
theorem fld39_1 : FldF Try.prog 39 1 1 := FldF.of (n := 0) (by kernel_rfl)
theorem fld39_2 : FldF Try.prog 39 2 2 := FldF.of (n := 0) (by kernel_rfl)
theorem fld39_3 : FldF Try.prog 39 3 3 := FldF.of (n := 0) (by kernel_rfl)
theorem ty37 : TyF Try.prog 37 (.slice 35) 1 24 [.slice none 0 0] := TyF.of (by kernel_rfl) (by kernel_rfl)
theorem ty35 : TyF Try.prog 35 (.struct (fieldsOf Try.prog 35)) 3 24 [.int .u8 0, .int .u32 0, str []] := TyF.of (by kernel_rfl) (by kernel_rfl)
theorem fld25_1 : FldF Try.prog 25 1 1 := FldF.of (n := 0) (by kernel_rfl)
theorem fld25_2 : FldF Try.prog 25 2 2 := FldF.of (n := 0) (by kernel_rfl)
theorem ty23 : TyF Try.prog 23 (.slice 39) 1 24 [.slice none 0 0] := TyF.of (by kernel_rfl) (by kernel_rfl)
theorem ty39 : TyF Try.prog 39 (.struct (fieldsOf Try.prog 39)) 4 40 [.int .u16 0, .int .u32 0, .int .u32 0, .slice none 0 0] := TyF.of (by kernel_rfl) (by kernel_rfl)
end Go.SK
namespace Go.SK
open Go Go.Proofs
theorem ent81 : Enters Try.prog 81 := ⟨Try.f81, _, Try.func81, by kernel_rfl, rfl⟩
theorem fld35_0 : FldF Try.prog 35 0 0 := FldF.of (n := 0) (by kernel_rfl)
theorem fld74_0 : FldF Try.prog 74 0 0 := FldF.of (n := 0) (by kernel_rfl)
theorem ent72 : Enters Try.prog 72 := ⟨Try.f72, _, Try.func72, by kernel_rfl, rfl⟩
end Go.SK
namespace Go.SK
open Go Go.Proofs
open Go.RowKit
theorem R5cd_id (n bound : Int) (w : World) : Ret Try.prog 67 #[.int .u32 n, .int .u32 bound] w (fun v w' => v = .int .i64 (idE n bound) ∧ St w NoM [] [] w') := by
 refine Ret.enter (args := [.int .u32 n, .int .u32 bound]) Try.func67 rfl rfl rfl ?_
 have hst := St.init w
 refine SR <| AI rfl <| NL <| SQ <| SR <| MU rfl <| CN <| Op1.eql rfl rfl <| MB rfl <| RunL.splitD (d := 7) rfl (fun g1 => ?_) (fun g1 => ?_)
 · skip
   refine OM (t := 7) rfl (congrArg Value.bool (decide_eq_true g1)) rfl <| OM (t := 7) rfl (congrArg Value.bool (decide_eq_true g1)) rfl <| OM (t := 7) rfl (congrArg Value.bool (decide_eq_true g1)) rfl <| CN <| Op1.pickT (u := .bool _) (congrArg Value.bool (decide_eq_true g1)) rfl <| NL <| run_cond_true (congrArg Value.bool (rfl : true = _)) <| SR <| AI rfl <| NL <| run_ret1 Try.func67 rfl (TP (v := .int .i64 _) rfl) ?_
   exact ⟨congrArg (Value.int .i64) (by unfold idE; rw [if_pos (by omega)]), hst.pure⟩
 refine TK (t := 7) rfl (congrArg Value.bool (decide_eq_false g1)) <| Op1.move (v := .int .u32 _) rfl <| TK (t := 7) rfl (congrArg Value.bool (decide_eq_false g1)) <| Op1.move (v := .int .u32 _) rfl <| TK (t := 7) rfl (congrArg Value.bool (decide_eq_false g1)) <| Op1.geq rfl rfl <| CN <| Op1.pickF (u := .bool _) (congrArg Value.bool (decide_eq_false g1)) rfl <| NL <| run_cond_dec rfl (fun g2 => ?_) (fun g2 => ?_)
 · skip
   refine SR <| AI rfl <| NL <| run_ret1 Try.func67 rfl (TP (v := .int .i64 _) rfl) ?_
   exact ⟨congrArg (Value.int .i64) (by unfold idE; rw [if_pos (by omega)]), hst.pure⟩
 refine run_skip <| SR <| AI rfl <| NL <| run_ret1 Try.func67 rfl (TP (v := .int .i64 _) rfl) ?_
 exact ⟨congrArg (Value.int .i64) (by unfold idE; rw [if_neg (by omega)]), hst.pure⟩
theorem R5ref4_None (n bound : Int) (w : World) : Ret Try.prog 55 #[.int .u32 n, .int .u32 bound] w (fun v w' => v = .bool (decide (n = 0 ∨ n ≥ bound)) ∧ St w NoM [] [] w') := by
 refine Ret.enter (args := [.int .u32 n, .int .u32 bound]) Try.func55 rfl rfl rfl ?_
 have hst := St.init w
 refine SR <| AB rfl <| NSR <| MU rfl <| CN <| Op1.eql rfl rfl <| MB rfl <| RunL.splitD (d := 7) rfl (fun g1 => ?_) (fun g1 => ?_)
 · skip
   refine OM (t := 7) rfl (congrArg Value.bool (decide_eq_true g1)) rfl <| OM (t := 7) rfl (congrArg Value.bool (decide_eq_true g1)) rfl <| OM (t := 7) rfl (congrArg Value.bool (decide_eq_true g1)) rfl <| CN <| Op1.pickT (u := .bool _) (congrArg Value.bool (decide_eq_true g1)) rfl <| AB rfl <| NL <| run_ret1 Try.func55 rfl (TP (v := .bool _) rfl) ?_
   exact ⟨congrArg Value.bool (by first | (simp; done) | (simp; omega)), hst.pure⟩
 refine TK (t := 7) rfl (congrArg Value.bool (decide_eq_false g1)) <| Op1.move (v := .int .u32 _) rfl <| TK (t := 7) rfl (congrArg Value.bool (decide_eq_false g1)) <| Op1.move (v := .int .u32 _) rfl <| TK (t := 7) rfl (congrArg Value.bool (decide_eq_false g1)) <| Op1.geq rfl rfl <| CN <| Op1.pickF (u := .bool _) (congrArg Value.bool (decide_eq_false g1)) rfl <| AB rfl <| NL <| run_ret1 Try.func55 rfl (TP (v := .bool _) rfl) ?_
 exact ⟨congrArg Value.bool (by first | (simp; done) | (simp; omega)), hst.pure⟩
theorem R5cd_named (c n : Int) (h0 : 0 ≤ c) (h1 : c ≤ 255) (w : World) : Ret Try.prog 71 #[.int .u8 c, .int .u32 n] w (fun v w' => v = .int .i64 (enumE c n) ∧ St w NoM [] [] w') := by
 refine Ret.enter (args := [.int .u8 c, .int .u32 n]) Try.func71 rfl rfl rfl ?_
 have hst := St.init w
 obtain ⟨o, ho⟩ : ∃ o, namesL.find? (enN c n) = o := ⟨_, rfl⟩
 refine SR <| AI rfl <| NL <| SQ <| SR <| MC rfl <| MU rfl <| CN <| Op1.call2 (v1 := .int .u8 _) (v2 := .int .u32 _) ent81 rfl rfl rfl <| Ret.det (R5gr_Enum2 ho h0 h1 _) hst fun w hst => CN <| Op1.move (v := .tuple #[str _, .bool _]) rfl <| CN <| Op1.extract (v := str _) rfl rfl <| CN <| Op1.extract (v := .bool _) rfl rfl <| AS rfl <| AB rfl ?_
 refine NSR <| MB rfl <| CN <| Op1.not rfl <| NL <| run_cond_split rfl (fun g1 => ?_) (fun g1 => ?_)
 · skip
   refine SR <| AI rfl <| NL <| run_ret1 Try.func71 rfl (TP (v := .int .i64 _) rfl) ?_
   exact ⟨congrArg (Value.int .i64) (by unfold enumE; rw [ho, if_neg (by simpa using g1)]), hst.pure⟩
 refine run_skip <| SR <| AI rfl <| NL <| run_ret1 Try.func71 rfl (TP (v := .int .i64 _) rfl) ?_
 exact ⟨congrArg (Value.int .i64) (by unfold enumE; rw [ho, if_pos (by simpa using g1)]), hst.pure⟩
theorem R5gr_Fits2 {op : Int} {ks : List Int} {fa : Int} {fb : Bool} {n : Nat} (hfit : fitsS op ks = (fa, fb)) (hn : n = ks.length) (h0 : 0 ≤ op) (ao : Option Addr) (cp : Nat) (w : World) (hA : (Res.rs ao n 1 (ks.flatMap u8C)).holds w) (hlen : n ≤ 9000000000000000) : Ret Try.prog 72 #[.int .u16 op, .slice ao n cp] w (fun v w' => v = .tuple #[.int .i64 fa, .bool fb] ∧ St w NoM [] [] w') := by
 subst hn
 exact (R5gr_Fits op h0 ks ao cp w hA (by omega)).mono fun v w' h => ⟨h.1.trans (by rw [hfit]), h.2⟩
theorem R5cd_whole (fm : FormL) (hf : FOk fm) (l : List ArgP) (ao : Option Addr) (cp : Nat) (w : World) (hA : (Res.rs ao l.length 3 (l.flatMap argC)).holds w) (hl : l.length ≤ 9000000000000) : Ret Try.prog 61 #[.agg #[.int .u16 fm.op, str fm.name, .bool fm.ty, .bool fm.res, str fm.fixed, str fm.rest, .int .i64 fm.most, .int .u8 fm.part], .slice ao l.length cp] w (fun v w' => v = .int .i64 (wholeE fm.op l) ∧ St w NoM [] [] w') := by
 refine Ret.enter (args := [.agg #[.int .u16 fm.op, str fm.name, .bool fm.ty, .bool fm.res, str fm.fixed, str fm.rest, .int .i64 fm.most, .int .u8 fm.part], .slice ao l.length cp]) Try.func61 rfl rfl rfl ?_
 have hst : St w NoM [] [Res.rs ao l.length 3 (l.flatMap argC)] w := St.init_D hA
 clear hA
 obtain ⟨fa, fb, hfit⟩ : ∃ fa fb, fitsS fm.op (l.map ArgP.kind) = (fa, fb) := ⟨_, _, rfl⟩
 refine SR <| CN <| Op1.box (v := .agg #[.int .u16 _, str _, .bool _, .bool _, str _, str _, .int .i64 _, .int .u8 _]) hst rfl rfl fun w b2 hst => AI rfl <| NSR <| AL rfl <| NL <| SQ <| SR <| ML rfl <| CN <| Op1.lenSl (rest := []) ty37 rfl <| MI rfl ?_
 refine NL <| run_block <| run_loop ?_
 replace hst := hst.pushNil 5 1
 refine Run.indW [(2, .pointer (some ⟨_, _, none⟩)), (10, .slice _ _ _), (11, .int .i64 _)] ⟨rfl, rfl, rfl, trivial⟩ (fun (q : Nat × Option Addr × Nat) => [(5, .slice q.2.1 q.1 q.2.2), (12, .int .i64 (q.1 : Int))]) (fun (q : Nat × Option Addr × Nat) => [Res.sl q.2.1 q.1 q.2.2 5 1 (((l.map ArgP.kind).take q.1).flatMap u8C)]) (fun (q : Nat × Option Addr × Nat) => q.1 ≤ l.length) (fun (q : Nat × Option Addr × Nat) => l.length - q.1) ((0, none, 0)) hst (Nat.zero_le _) ⟨rfl, rfl, trivial⟩ ?_
 intro ⟨i, aq, cq⟩ f w hst hJ ih1
 replace hst : St _ _ ([Res.sl aq i cq 5 1 (((l.map ArgP.kind).take i).flatMap u8C)] ++ [_]) _ _ := hst
 replace hJ : i ≤ l.length := hJ
 refine Run.slots (sl := [(5, .slice aq i cq), (12, .int .i64 (i : Int))]) ⟨rfl, rfl, trivial⟩ <| SR <| CN <| Op1.lss rfl rfl <| NL <| SQ <| run_cond_dec rfl (fun g2 => ?_) (fun g2 => ?_)
 · skip
   have hidx : l.getD ((i : Int)).toNat zeroA = l.getD i zeroA := rfl
   refine run_skip <| SQ <| run_block <| SR <| CN <| Op1.indexRs ty37 ty35 (hst.hD _ (.head _)) rfl rfl (by omega) (by omega) <| CN <| Op1.loadA (vs := [.int .u8 _, .int .u32 _, str _]) ty35 rfl rfl rfl (Res.rs2_cells (m := 3) (hst.hD _ (.head _)) _ (flat_seg (g := argC) (d := zeroA) argC_len _ _ (by omega))) <| CN <| Op1.alloc hst ty35 fun w b7 hst => CN (SO (v := .agg #[.int .u8 _, .int .u32 _, str _]) hst ty35 rfl rfl (.here) fun w hst => ?_)
   refine NR <| ML rfl <| CN <| Op1.fieldAddr fld35_0 rfl <| CN <| Op1.load1 (v := .int .u8 _) ty5 rfl rfl (hst.cellL (.head _) rfl) <| CN (Op1.buildSl (z0 := [.int .u8 0]) hst ty124 ty5 rfl rfl (by kernel_rfl) (.c (v := .int .u8 _) rfl (h := .nil)) fun w b19 hst => ?_)
   refine CN (Op1.append (news := [.int .u8 _]) hst ty124 ty5 rfl rfl (.there (.there (.here))) rfl rfl rfl (cells_of_obj (n := 1) (hst.objL (.head _)) _ rfl) rfl rfl (by omega) fun w ao3 cp4 hst => ?_)
   replace hst := hst.drop (.there (.here))
   refine AL rfl <| NL <| run_inBlock <| RG <| CN <| Op1.addN rfl rfl rfl (wrap_i64 (by omega) (by omega)) <| MI rfl <| NL <| run_inLoop ?_
   have e1 : ((l.map ArgP.kind).take i).flatMap u8C ++ [.int .u8 (l.getD i zeroA).kind] = ((l.map ArgP.kind).take (i + 1)).flatMap u8C := by rw [take_getD2 (l := l.map ArgP.kind) (d := zeroA.kind) (by rw [List.length_map]; omega), map_getD2 _ _ (by omega), List.flatMap_append]; rfl
   replace hst := hst.pick (.cons (.here) (.cons (.there (.here)) .nil))
   exact ih1 ((i + 1, ao3, cp4)) _ w (by (try dsimp only); omega) (by (try dsimp only); rw [← e1]; exact hst) (by (try dsimp only); omega) ⟨rfl, rfl, rfl, trivial⟩ ⟨rfl, (congrArg (Value.int .i64) (by (try dsimp only); omega)), trivial⟩
 obtain rfl : i = l.length := by omega
 have hlk : l.length = (l.map ArgP.kind).length := by rw [List.length_map]
 rw [List.take_of_length_le (by omega)] at hst
 refine run_exit (id := 0) rfl <| SQ <| SR <| CN <| Op1.fieldAddr fld74_0 rfl <| CN <| Op1.load1 (v := .int .u16 _) ty33 rfl rfl (hst.cellL (.tail _ (.head _)) rfl) <| ML rfl <| CN <| Op1.call2 (v1 := .int .u16 _) (v2 := .slice _ _ _) ent72 rfl rfl rfl <| Ret.det (R5gr_Fits2 hfit hlk hf.op.1 _ _ _ (Res.rs_of_sl (hst.hL _ (.head _))) (by omega)) hst fun w hst => CN <| Op1.move (v := .tuple #[.int .i64 _, .bool _]) rfl <| CN <| Op1.extract (v := .int .i64 _) rfl rfl <| CN <| Op1.extract (v := .bool _) rfl rfl <| AI rfl <| AB rfl <| NL <| SQ ?_
 refine RG <| MB rfl <| CN <| Op1.not rfl <| NL <| run_cond_split rfl (fun g5 => ?_) (fun g5 => ?_)
 · skip
   refine SR <| AI rfl <| NL <| run_ret1 Try.func61 rfl (TP (v := .int .i64 _) rfl) ?_
   exact ⟨congrArg (Value.int .i64) (by unfold wholeE; rw [hfit, if_neg (by simpa using g5)]), hst.pure⟩
 refine run_skip <| SR <| AI rfl <| NL <| run_ret1 Try.func61 rfl (TP (v := .int .i64 _) rfl) ?_
 exact ⟨congrArg (Value.int .i64) (by unfold wholeE; rw [hfit, if_pos (by simpa using g5)]), hst.pure⟩
end Go.SK
namespace Go.SK
open Go Go.Proofs
open Go.RowKit
theorem R5gr_Letter3 {op c : Int} {fm : FormL} {i : Int} (h0 : 0 ≤ op) (hfm : refD op = fm) (hc : letterS fm i = c) (h1 : i ≤ 9223372036854775807) (w : World) : Ret Try.prog 68 #[.int .u16 op, .int .i64 i] w (fun v w' => v = .int .u8 c ∧ St w NoM [] [] w') := by
 subst hfm; subst hc; exact R5gr_Letter op h0 i h1 w
theorem R5gr_Kind2 {c kd : Int} (hk : kindS c = kd) (w : World) : Ret Try.prog 69 #[.int .u8 c] w (fun v w' => v = .int .u8 kd ∧ St w NoM [] [] w') := by
 subst hk; exact R5gr_Kind c w
end Go.SK
namespace Go.SK
open Go Go.Proofs
open Go.RowKit
theorem R5ref4_Whole (fm : FormL) (hf : FOk fm) (n : Nat) (hn : n ≤ 9000000000000) (w : World) : Ret Try.prog 46 #[.agg #[.int .u16 fm.op, str fm.name, .bool fm.ty, .bool fm.res, str fm.fixed, str fm.rest, .int .i64 fm.most, .int .u8 fm.part], .int .i64 (n : Int)] w (fun v w' => v = .bool (wholeQ fm n) ∧ St w NoM [] [] w') := by
 refine Ret.enter (args := [.agg #[.int .u16 fm.op, str fm.name, .bool fm.ty, .bool fm.res, str fm.fixed, str fm.rest, .int .i64 fm.most, .int .u8 fm.part], .int .i64 (n : Int)]) Try.func46 rfl rfl rfl ?_
 have hst := St.init w
 have hfl := hf.fixed
 have hrl := hf.rest
 refine SR <| CN <| Op1.box (v := .agg #[.int .u16 _, str _, .bool _, .bool _, str _, str _, .int .i64 _, .int .u8 _]) hst rfl rfl fun w b2 hst => AB rfl <| NL <| SQ <| SR <| MI rfl <| CN <| Op1.fieldAddr fld74_4 rfl <| CN <| Op1.load1 (v := str _) ty9 rfl rfl (hst.cellL (.head _) rfl) <| CN <| Op1.lenS (rest := []) ty9 rfl <| CN <| Op1.lss rfl rfl <| NL <| run_cond_dec rfl (fun g1 => ?_) (fun g1 => ?_)
 · skip
   refine SR <| AB rfl <| NL <| run_ret1 Try.func46 rfl (TP (v := .bool _) rfl) ?_
   exact ⟨congrArg Value.bool (by unfold wholeQ; rw [if_pos (by omega)]), hst.pure⟩
 refine run_skip <| SQ <| SR <| CN <| Op1.fieldAddr fld74_5 rfl <| CN <| Op1.load1 (v := str _) ty9 rfl rfl (hst.cellL (.head _) rfl) <| CN <| Op1.lenS (rest := []) ty9 rfl <| CN <| Op1.eql rfl rfl <| NL <| run_cond_dec rfl (fun g2 => ?_) (fun g2 => ?_)
 · skip
   refine SR <| MI rfl <| CN <| Op1.fieldAddr fld74_4 rfl <| CN <| Op1.load1 (v := str _) ty9 rfl rfl (hst.cellL (.head _) rfl) <| CN <| Op1.lenS (rest := []) ty9 rfl <| CN <| Op1.eql rfl rfl <| AB rfl <| NL <| run_ret1 Try.func46 rfl (TP (v := .bool _) rfl) ?_
   exact ⟨congrArg Value.bool (by unfold wholeQ; rw [if_neg (by omega), if_pos (by omega)]; first | (rw [decide_eq_decide]; omega) | rfl), hst.pure⟩
 refine run_skip <| SR <| MI rfl <| CN <| Op1.fieldAddr fld74_4 rfl <| CN <| Op1.load1 (v := str _) ty9 rfl rfl (hst.cellL (.head _) rfl) <| CN <| Op1.lenS (rest := []) ty9 rfl <| CN <| Op1.subN rfl rfl rfl (wrap_i64 (by omega) (by omega)) <| CN <| Op1.fieldAddr fld74_5 rfl <| CN <| Op1.load1 (v := str _) ty9 rfl rfl (hst.cellL (.head _) rfl) <| CN (Op1.lenS (rest := []) ty9 rfl ?_)
 first | refine CN (Op1.remN rfl rfl (by omega) (by omega) rfl ?_) | refine CN (Op1.rem rfl rfl (by omega) ?_)
 refine CN <| Op1.eql rfl rfl <| AB rfl <| NL <| run_ret1 Try.func46 rfl (TP (v := .bool _) rfl) ?_
 exact ⟨congrArg Value.bool (by unfold wholeQ; rw [if_neg (by omega), if_neg (by omega)]), hst.pure⟩
theorem R5ref_Kind2 {c kd : Int} (hk : kindS c = kd) (h0 : 0 ≤ c) (h1 : c ≤ 255) (w : World) : Ret Try.prog 54 #[.int .u8 c] w (fun v w' => v = .int .u8 kd ∧ St w NoM [] [] w') := by
 subst hk; exact R5ref_Kind c h0 h1 w
theorem R5ref_Enum2 {c n : Int} {o : Option NameL} (h : namesL.find? (enN c n) = o) (w : World) : Ret Try.prog 56 #[.int .u8 c, .int .u32 n] w (fun v w' => v = nameV o ∧ St w NoM [] [] w') := by
 subst h; exact R5ref_Enum c n w
end Go.SK
namespace Go.SK
open Go Go.Proofs
theorem ent84 : Enters Try.prog 84 := ⟨Try.f84, _, Try.func84, by kernel_rfl, rfl⟩
end Go.SK
namespace Go.SK
open Go Go.Proofs
open Go.RowKit
theorem R5ix_lite (s : List UInt8) (w : World) : Ret Try.prog 84 #[str s, .int .u8 0] w (fun v w' => v = .int .i64 (idxZ s) ∧ St w NoM [] [] w') := by
 refine Ret.enter (args := [str s, .int .u8 0]) Try.func84 rfl rfl rfl ?_
 have hst := St.init w
 refine SR <| AI rfl <| NSR <| MS rfl <| MC rfl <| CN <| Op1.ext2 (v1 := str s) (v2 := .int .u8 0) Try.func86 (by kernel_rfl) (by kernel_rfl) (by kernel_rfl) (by kernel_rfl) rfl rfl rfl (run_indexByte_string ⟨s.toArray⟩ 0 _) <| AI rfl <| NL <| run_ret1 Try.func84 rfl (TP (v := .int .i64 _) rfl) ?_
 exact ⟨congrArg (Value.int .i64) (firstIdx_zero s), hst.pure⟩
theorem R5ix_strings (s : List UInt8) (w : World) : Ret Try.prog 78 #[str s, .int .u8 0] w (fun v w' => v = .int .i64 (idxZ s) ∧ St w NoM [] [] w') := by
 refine Ret.enter (args := [str s, .int .u8 0]) Try.func78 rfl rfl rfl ?_
 have hst := St.init w
 refine SR <| AI rfl <| NSR <| MS rfl <| MC rfl <| CN <| Op1.call2 (v1 := str _) (v2 := .int .u8 _) ent84 rfl rfl rfl <| Ret.det (R5ix_lite _ _) hst fun w hst => AI rfl <| NL <| run_ret1 Try.func78 rfl (TP (v := .int .i64 _) rfl) ?_
 exact ⟨rfl, hst.pure⟩
end Go.SK
namespace Go.SK
open Go Go.Proofs
theorem fld108_2 : FldF Try.prog 108 2 9 := FldF.of (n := 0) (by kernel_rfl)
theorem fld108_3 : FldF Try.prog 108 3 10 := FldF.of (n := 0) (by kernel_rfl)
theorem ent66 : Enters Try.prog 66 := ⟨Try.f66, _, Try.func66, by kernel_rfl, rfl⟩
theorem fld108_1 : FldF Try.prog 108 1 8 := FldF.of (n := 0) (by kernel_rfl)
theorem ent67 : Enters Try.prog 67 := ⟨Try.f67, _, Try.func67, by kernel_rfl, rfl⟩
theorem ent78 : Enters Try.prog 78 := ⟨Try.f78, _, Try.func78, by kernel_rfl, rfl⟩
theorem ent79 : Enters Try.prog 79 := ⟨Try.f79, _, Try.func79, by kernel_rfl, rfl⟩
end Go.SK
namespace Go.SK
open Go Go.Proofs
open Go.RowKit
theorem R5cd_put (bq : Nat) (fm : FormL) (bound : Int) (ao : Option Addr) (cp : Nat) (ws : List Int) (room : Int) (n : Int) (w : World) (hR : (WrC 108 22 bq fm bound ao cp ws room).holds w) (hl : ws.length ≤ 1000000000000) (hr0 : 0 ≤ room) (hr1 : room ≤ 1000000000000) : Ret Try.prog 66 #[.pointer (some ⟨bq, 0, none⟩), .int .u32 n] w (fun v w' => ∃ ao' cp', St w (WrC 108 22 bq fm bound ao cp ws room).foot [WrC 108 22 bq fm bound ao' cp' (ws ++ [n]) (room + 1)] [] w') := by
 refine Ret.enter (args := [.pointer (some ⟨bq, 0, none⟩), .int .u32 n]) Try.func66 rfl rfl rfl ?_
 have hst : St w (WrC 108 22 bq fm bound ao cp ws room).foot [WrC 108 22 bq fm bound ao cp ws room] [] w := St.enter1 hR (fun d hd => by cases hd) (fun d hd => by cases hd)
 replace hst : St _ _ [_, _] _ _ := hst.unpack
 refine SR <| MP rfl <| MP rfl <| CN <| Op1.nilCheckP rfl <| CN <| Op1.fieldAddr fld108_2 rfl <| CN <| Op1.load1 (v := .slice _ _ _) ty93 rfl rfl (hst.cellL (.head _) rfl) <| MU rfl <| CN (Op1.buildSl (z0 := [.int .u32 0]) hst ty93 ty22 rfl rfl (by kernel_rfl) (.c (v := .int .u32 _) rfl (h := .nil)) fun w b10 hst => ?_)
 refine CN (Op1.append (news := [.int .u32 _]) hst ty93 ty22 rfl rfl (.there (.there (.here))) rfl rfl rfl (cells_of_obj (n := 1) (hst.objL (.head _)) _ rfl) rfl rfl (by omega) fun w ao1 cp2 hst => ?_)
 replace hst := hst.drop (.there (.here))
 refine CN <| Op1.nilCheckP rfl <| CN <| Op1.fieldAddr fld108_2 rfl <| CN (SO (v := .slice _ _ _) hst ty93 rfl rfl (.there (.here)) fun w hst => ?_)
 refine NR <| MP rfl <| CN <| Op1.nilCheckP rfl <| CN <| Op1.fieldAddr fld108_3 rfl <| CN <| Op1.load1 (v := .int .i64 _) ty3 rfl rfl (hst.cellL (.tail _ (.head _)) rfl) <| CN <| Op1.addN rfl rfl rfl (wrap_i64 (by omega) (by omega)) <| CN <| Op1.nilCheckP rfl <| CN <| Op1.fieldAddr fld108_3 rfl <| CN (SO (v := .int .i64 _) hst ty3 rfl rfl (.there (.here)) fun w hst => ?_)
 refine NL <| run_end0 Try.func66 rfl  ?_
 replace hst := hst.pick (.cons (.there (.here)) (.cons (.here) .nil))
 have e1 : ws.length + 1 = (ws ++ [n]).length := by simp
 have e2 : ws.flatMap u32C ++ [.int .u32 n] = (ws ++ [n]).flatMap u32C := by simp
 rw [e1, e2] at hst
 exact ⟨_, _, (St.pack (L1 := [_, _]) (L2 := []) hst)⟩
theorem R5cd_whead (bq : Nat) (fm : FormL) (bound : Int) (ao : Option Addr) (cp : Nat) (ws : List Int) (room : Int) (must : Bool) (n lacks : Int) (hk : lacks ≠ 0) (w : World) (hR : (WrC 108 22 bq fm bound ao cp ws room).holds w) (hl : ws.length ≤ 1000000000000) (hr0 : 0 ≤ room) (hr1 : room ≤ 1000000000000) : Ret Try.prog 59 #[.pointer (some ⟨bq, 0, none⟩), .bool must, .int .u32 n, .int .i64 lacks] w (fun v w' => ∃ ao' cp' ws' room', v = .int .i64 (idH must n bound lacks) ∧ ((idH must n bound lacks) = 0 → ws' = ws ++ mustW must n ∧ room' = room + b2n must) ∧ ws'.length ≤ ws.length + 1 ∧ 0 ≤ room' ∧ room' ≤ room + 1 ∧ St w (WrC 108 22 bq fm bound ao cp ws room).foot [WrC 108 22 bq fm bound ao' cp' ws' room'] [] w') := by
 refine Ret.enter (args := [.pointer (some ⟨bq, 0, none⟩), .bool must, .int .u32 n, .int .i64 lacks]) Try.func59 rfl rfl rfl ?_
 have hst : St w (WrC 108 22 bq fm bound ao cp ws room).foot [WrC 108 22 bq fm bound ao cp ws room] [] w := St.enter1 hR (fun d hd => by cases hd) (fun d hd => by cases hd)
 replace hst : St _ _ [_, _] _ _ := hst.unpack
 refine SR <| AI rfl <| NL <| SQ <| run_block <| SR <| MB rfl <| MU rfl <| CN <| Op1.neq rfl rfl <| CN <| Op1.neqB ty4 rfl rfl <| AB rfl <| NL <| run_cond_split rfl (fun g1 => ?_) (fun g1 => ?_)
 · skip
   refine SR <| MI rfl <| AI rfl <| NL <| run_ret1 Try.func59 rfl (TP (v := .int .i64 _) rfl) ?_
   replace hst := hst.pick (.cons (.here) (.cons (.here) .nil))
   have hE := idH_lacks (must := must) (n := n) (bound := bound) (e := lacks) (bne_iff_ne.1 g1)
   rw [hE]
   exact ⟨ao, cp, ws, room, rfl, fun h => absurd h hk, by omega, hr0, by omega, (St.pack (L1 := [_, _]) (L2 := []) hst)⟩
 refine SR <| MB rfl <| CN <| Op1.not rfl <| AB rfl <| NL <| run_cond_split rfl (fun g2 => ?_) (fun g2 => ?_)
 · skip
   refine SR <| AI rfl <| NL <| run_ret1 Try.func59 rfl (TP (v := .int .i64 _) rfl) ?_
   replace hst := hst.pick (.cons (.here) (.cons (.here) .nil))
   have hm : must = false := by simpa using g2
   have hE := idH_no (must := must) (n := n) (bound := bound) (e := lacks) (fun hx => by have hy := bne_iff_ne.2 hx; rw [g1] at hy; cases hy) hm
   rw [hE]
   exact ⟨ao, cp, ws, room, rfl, fun _ => ⟨by rw [mustW, hm]; simp, by rw [b2n, hm]; simp⟩, by omega, hr0, by omega, (St.pack (L1 := [_, _]) (L2 := []) hst)⟩
 refine run_skip <| run_inBlock <| SR <| MP rfl <| MU rfl ?_
 replace hst := hst.pick (.cons (.here) (.cons (.here) .nil))
 replace hst : St _ _ (WrC 108 22 bq fm bound ao cp ws room :: _) _ _ := hst.pack (L1 := [_, _])
 refine CN (Op1.call2 (v1 := .pointer (some ⟨_, _, none⟩)) (v2 := .int .u32 _) ent66 rfl rfl rfl ((R5cd_put bq fm bound ao cp ws room _ _ (hst.hL _ (.head _)) hl hr0 hr1).mono fun v w hp => ?_))
 obtain ⟨ao2, cp2, hp⟩ := hp
 replace hst : St _ _ (WrC 108 22 bq fm bound ao2 cp2 (ws ++ [n]) (room + 1) :: _) _ _ := hst.call1 hp
 replace hst : St _ _ (_ :: _ :: _) _ _ := hst.unpack
 clear hp
 refine NSR <| MU rfl <| MP rfl <| CN <| Op1.nilCheckP rfl <| CN <| Op1.fieldAddr fld108_1 rfl <| CN <| Op1.load1 (v := .int .u32 _) ty22 rfl rfl (hst.cellL (.head _) rfl) <| CN <| Op1.call2 (v1 := .int .u32 _) (v2 := .int .u32 _) ent67 rfl rfl rfl <| Ret.det (R5cd_id _ _ _) hst fun w hst => AI rfl <| NL <| run_ret1 Try.func59 rfl (TP (v := .int .i64 _) rfl) ?_
 replace hst := hst.pick (.cons (.here) (.cons (.here) .nil))
 have hm : must = true := by simpa using g2
 have hE := idH_id (must := must) (n := n) (bound := bound) (e := lacks) (fun hx => by have hy := bne_iff_ne.2 hx; rw [g1] at hy; cases hy) hm
 rw [hE]
 exact ⟨ao2, cp2, ws ++ [n], room + 1, rfl, fun _ => ⟨by rw [mustW, hm]; rfl, by rw [b2n, hm]; rfl⟩, by simp, by omega, by omega, (St.pack (L1 := [_, _]) (L2 := []) hst)⟩
theorem R5cd_wtext (bq : Nat) (fm : FormL) (bound : Int) (ao : Option Addr) (cp : Nat) (ws : List Int) (room : Int) (s : List UInt8) (hs : s.length ≤ 100000000000) (w : World) (hR : (WrC 108 22 bq fm bound ao cp ws room).holds w) (hl : ws.length ≤ 1000000000000) (hr0 : 0 ≤ room) (hr1 : room ≤ 1000000000000) : Ret Try.prog 70 #[.pointer (some ⟨bq, 0, none⟩), str s] w (fun v w' => ∃ ao' cp' ws' room', v = .int .i64 (textE s) ∧ ((textE s) = 0 → ws' = ws ++ ofTextL s ∧ room' = room + ((s.length / 4 + 1 : Nat) : Int)) ∧ ws'.length ≤ ws.length + (s.length / 4 + 1) ∧ 0 ≤ room' ∧ room' ≤ room + ((s.length / 4 + 1 : Nat) : Int) ∧ St w (WrC 108 22 bq fm bound ao cp ws room).foot [WrC 108 22 bq fm bound ao' cp' ws' room'] [] w') := by
 refine Ret.enter (args := [.pointer (some ⟨bq, 0, none⟩), str s]) Try.func70 rfl rfl rfl ?_
 have hst : St w (WrC 108 22 bq fm bound ao cp ws room).foot [WrC 108 22 bq fm bound ao cp ws room] [] w := St.enter1 hR (fun d hd => by cases hd) (fun d hd => by cases hd)
 replace hst : St _ _ [_, _] _ _ := hst.unpack
 have hle := ofText_le s
 refine SR <| AI rfl <| NL <| SQ <| SR <| MS rfl <| CN <| Op1.call2 (v1 := str _) (v2 := .int .u8 _) ent78 rfl rfl rfl <| Ret.det (R5ix_strings s _) hst fun w hst => CN <| Op1.geq rfl rfl <| NL <| run_cond_dec rfl (fun g1 => ?_) (fun g1 => ?_)
 · skip
   refine SR <| AI rfl <| NL <| run_ret1 Try.func70 rfl (TP (v := .int .i64 _) rfl) ?_
   replace hst := hst.pick (.cons (.here) (.cons (.here) .nil))
   have hE : textE s = 13 := if_pos (idxZ_neg.1 (by omega))
   rw [hE]
   exact ⟨ao, cp, ws, room, rfl, fun h => absurd h (by decide), by omega, hr0, by omega, (St.pack (L1 := [_, _]) (L2 := []) hst)⟩
 refine run_skip <| SR <| MS rfl <| CN (Op1.call1 (v1 := str _) ent79 rfl rfl ((R5wd_OfText s _ (by omega)).mono fun v w hp => ?_))
 obtain ⟨aT, cT, rfl, hp⟩ := hp
 replace hst : St _ _ (_ :: _) _ _ := hst.call0 hp
 clear hp
 refine CN <| Op1.move (v := .tuple #[.slice _ _ _, .int .i64 _]) rfl <| CN <| Op1.extract (v := .slice _ _ _) rfl rfl <| CN <| Op1.extract (v := .int .i64 _) rfl rfl <| AL rfl <| AI rfl <| NL <| SQ <| SR <| MI rfl <| CN <| Op1.neq rfl rfl <| NL <| run_cond_dec rfl (fun g2 => ?_) (fun g2 => ?_)
 · skip
   refine SQ <| RunD.start [] hst (bs := [0, 1, 3, 7, 0, 16, 63, 127, 255, 511]) (ds := [some 17, some 18, some 19, some 20, some 21, some 22, some 23, some 24, some 25, none]) ⟨by kernel_rfl, by kernel_rfl, by kernel_rfl⟩ (fun tab3 => ?_)
   refine RunD.op (det _) tab3 1 (fun f' L' w' hc => Op1.move (v := .pointer (some ⟨_, _, none⟩)) (hc.old (v := .pointer (some ⟨_, _, none⟩)) rfl rfl rfl) ⟨[], ⟨rfl, rfl⟩, hc.st⟩) <| RunD.op (det _) tab3 2 (fun f' L' w' hc => Op1.nilCheckP (hc.det (j := 0) rfl rfl rfl rfl) ⟨[], ⟨rfl, rfl⟩, hc.st⟩) <| RunD.op (det _) tab3 3 (fun f' L' w' hc => Op1.fieldAddr fld108_3 (hc.det (j := 1) rfl rfl rfl rfl) ⟨[], ⟨rfl, rfl⟩, hc.st⟩) <| RunD.op (det _) tab3 4 (fun f' L' w' hc => Op1.load1 (v := .int .i64 _) ty3 rfl (hc.det (j := 2) rfl rfl rfl rfl) (hc.st.cellL (List.mem_append_right _ (.tail _ (.head _))) rfl) ⟨[], ⟨rfl, rfl⟩, hc.st⟩) <| RunD.op (det _) tab3 5 (fun f' L' w' hc => Op1.move (v := str _) (hc.old (v := str _) rfl rfl rfl) ⟨[], ⟨rfl, rfl⟩, hc.st⟩) <| RunD.op (det _) tab3 6 (fun f' L' w' hc => Op1.call1 (v1 := str _) ent80 rfl (hc.det (j := 4) rfl rfl rfl rfl) ((R5wd_Room s _ (by omega)).mono fun v w hp => ⟨[], ⟨hp.1, rfl⟩, hc.st.keepc hp.2⟩)) <| RunD.fin followsMixed tab3 hst rfl (fun f4 w R7 hs5 hd6 hr8 hst => ?_)
   obtain ⟨h17_, r0⟩ := hd6 0 17 rfl rfl
   obtain ⟨h18_, r1⟩ := hd6 1 18 rfl rfl
   obtain ⟨h19_, r2⟩ := hd6 2 19 rfl rfl
   obtain ⟨h20_, r3⟩ := hd6 3 20 rfl rfl
   obtain ⟨h21_, r4⟩ := hd6 4 21 rfl rfl
   obtain ⟨h22_, r5⟩ := hd6 5 22 rfl rfl
   simp only [show List.range 6 = [0, 1, 2, 3, 4, 5] from rfl, List.flatMap_cons, List.flatMap_nil, List.map_cons, List.map_nil, r0, r1, r2, r3, r4, r5, List.nil_append, List.append_nil, List.cons_append] at hst
   refine RunL.slots (sl := [(17, .pointer (some ⟨_, _, none⟩)), (20, .int .i64 _), (22, .int .i64 _)]) ⟨h17_, h20_, h22_, trivial⟩ ?_
   clear hs5 hd6 hr8 tab3
   refine CN <| Op1.addN rfl rfl rfl (wrap_i64 (by omega) (by omega)) <| CN <| Op1.nilCheckP rfl <| CN <| Op1.fieldAddr fld108_3 rfl <| CN (SO (v := .int .i64 _) hst ty3 rfl rfl (.there (.here)) fun w hst => ?_)
   refine NL <| Run.forget [] trivial fun f => SR <| AI rfl <| NL <| run_ret1 Try.func70 rfl (TP (v := .int .i64 _) rfl) ?_
   replace hst := hst.pick (.cons (.there (.here)) (.cons (.there (.here)) .nil))
   have hE : textE s = 0 := if_neg (fun h => by have := idxZ_neg.2 h; omega)
   rw [hE]
   have hT : ofTextL s = [] := ofTextL_err g2
   exact ⟨ao, cp, ws, room + ((s.length / 4 + 1 : Nat) : Int), rfl, fun _ => ⟨by rw [hT]; simp, rfl⟩, by omega, by omega, by omega, (St.pack (L1 := [_, _]) (L2 := []) hst)⟩
 refine run_skip <| SR <| MP rfl <| MP rfl <| CN <| Op1.nilCheckP rfl <| CN <| Op1.fieldAddr fld108_2 rfl <| CN <| Op1.load1 (v := .slice _ _ _) ty93 rfl rfl (hst.cellL (.tail _ (.head _)) rfl) <| ML rfl <| CN <| Op1.appendRs hst ty93 ty22 rfl rfl (.there (.there (.here))) rfl rfl (Res.rs_of_sl (hst.hL _ (.head _))) (flat_ok (fun _ => rfl) _) rfl (by omega) fun w ao2 cp2 hst => CN <| Op1.nilCheckP rfl <| CN <| Op1.fieldAddr fld108_2 rfl <| CN (SO (v := .slice _ _ _) hst ty93 rfl rfl (.there (.there (.here))) fun w hst => ?_)
 refine NL <| Run.forget [(0, .pointer (some ⟨_, _, none⟩)), (5, .slice _ _ _)] ⟨rfl, rfl, trivial⟩ fun f => SR <| MP rfl <| CN <| Op1.nilCheckP rfl <| CN <| Op1.fieldAddr fld108_3 rfl <| CN <| Op1.load1 (v := .int .i64 _) ty3 rfl rfl (hst.cellL (.tail _ (.tail _ (.head _))) rfl) <| ML rfl <| CN <| Op1.lenSl (rest := []) ty93 rfl <| CN <| Op1.addN rfl rfl rfl (wrap_i64 (by omega) (by omega)) <| CN <| Op1.nilCheckP rfl <| CN <| Op1.fieldAddr fld108_3 rfl <| CN (SO (v := .int .i64 _) hst ty3 rfl rfl (.there (.there (.here))) fun w hst => ?_)
 refine NSR <| AI rfl <| NL <| run_ret1 Try.func70 rfl (TP (v := .int .i64 _) rfl) ?_
 replace hst := hst.pick (.cons (.there (.there (.here))) (.cons (.here) .nil))
 have hE : textE s = 0 := if_neg (fun h => by have := idxZ_neg.2 h; omega)
 rw [hE]
 have hT := ofText_len (Classical.not_not.1 g2)
 have e1 : ws.length + (ofTextL s).length = (ws ++ ofTextL s).length := by simp
 have e2 : ws.flatMap u32C ++ (ofTextL s).flatMap u32C = (ws ++ ofTextL s).flatMap u32C := by simp
 rw [e1, e2] at hst
 exact ⟨ao2, cp2, ws ++ ofTextL s, room + ((ofTextL s).length : Int), rfl, fun _ => ⟨rfl, by rw [hT]⟩, by rw [List.length_append]; omega, by omega, by omega, (St.pack (L1 := [_, _]) (L2 := []) hst)⟩
end Go.SK
namespace Go.SK
open Go Go.Proofs
theorem fld108_0 : FldF Try.prog 108 0 0 := FldF.of (n := 7) (by kernel_rfl)
theorem ent68 : Enters Try.prog 68 := ⟨Try.f68, _, Try.func68, by kernel_rfl, rfl⟩
theorem fld35_1 : FldF Try.prog 35 1 1 := FldF.of (n := 0) (by kernel_rfl)
theorem fld35_2 : FldF Try.prog 35 2 2 := FldF.of (n := 0) (by kernel_rfl)
theorem ent70 : Enters Try.prog 70 := ⟨Try.f70, _, Try.func70, by kernel_rfl, rfl⟩
theorem ent71 : Enters Try.prog 71 := ⟨Try.f71, _, Try.func71, by kernel_rfl, rfl⟩
end Go.SK
namespace Go.SK
open Go Go.Proofs
open Go.RowKit
theorem R5cd_warg (bq : Nat) (fm : FormL) (bound : Int) (ao : Option Addr) (cp : Nat) (ws : List Int) (room : Int) (k : Nat) (hk : k ≤ 9000000000000000) (a : ArgP) (hs : a.s.length ≤ 100000000000) (c : Int) (hfm : refD fm.op = fm) (hc : letterS fm (k : Int) = c) (w : World) (hR : (WrC 108 22 bq fm bound ao cp ws room).holds w) (hl : ws.length ≤ 1000000000000) (hr0 : 0 ≤ room) (hr1 : room ≤ 1000000000000) : Ret Try.prog 60 #[.pointer (some ⟨bq, 0, none⟩), .int .i64 (k : Int), .agg #[.int .u8 a.kind, .int .u32 a.n, str a.s]] w (fun v w' => ∃ ao' cp' ws' room', v = .int .i64 (wrongA c a bound) ∧ ((wrongA c a bound) = 0 → ws' = ws ++ argW a ∧ room' = room + (argRoom a : Int)) ∧ ws'.length ≤ ws.length + argRoom a ∧ 0 ≤ room' ∧ room' ≤ room + (argRoom a : Int) ∧ St w (WrC 108 22 bq fm bound ao cp ws room).foot [WrC 108 22 bq fm bound ao' cp' ws' room'] [] w') := by
 refine Ret.enter (args := [.pointer (some ⟨bq, 0, none⟩), .int .i64 (k : Int), .agg #[.int .u8 a.kind, .int .u32 a.n, str a.s]]) Try.func60 rfl rfl rfl ?_
 have hst : St w (WrC 108 22 bq fm bound ao cp ws room).foot [WrC 108 22 bq fm bound ao cp ws room] [] w := St.enter1 hR (fun d hd => by cases hd) (fun d hd => by cases hd)
 replace hst : St _ _ [_, _] _ _ := hst.unpack
 have hf : FOk fm := hfm ▸ refD_fok fm.op
 have hop := hf.op
 have hcb : 0 ≤ c ∧ c ≤ 255 := hc ▸ letterS_bd fm _
 obtain ⟨kd, hkd⟩ : ∃ kd, kindS c = kd := ⟨_, rfl⟩
 refine SR <| CN <| Op1.box (v := .agg #[.int .u8 _, .int .u32 _, str _]) hst rfl rfl fun w b5 hst => AI rfl <| NSR <| MP rfl <| CN <| Op1.nilCheckP rfl <| CN <| Op1.fieldAddr fld108_0 rfl <| CN <| Op1.fieldAddr fld74_0 rfl <| CN <| Op1.load1 (v := .int .u16 _) ty33 rfl rfl (hst.cellL (.tail _ (.head _)) rfl) <| MI rfl <| CN <| Op1.call2 (v1 := .int .u16 _) (v2 := .int .i64 _) ent68 rfl rfl rfl <| Ret.det (R5gr_Letter3 hop.1 hfm hc (by omega) _) hst fun w hst => AC rfl ?_
 refine NSR <| CN <| Op1.fieldAddr fld35_0 rfl <| CN <| Op1.load1 (v := .int .u8 _) ty5 rfl rfl (hst.cellL (.head _) rfl) <| CN <| Op1.eql rfl rfl <| AB rfl <| NL <| SQ <| run_block <| SQ <| RunD.start [] hst (bs := [0, 1, 3, 7, 15, 7, 39, 127, 255, 511, 1023, 2047, 4095, 8191, 16383, 32767, 65535, 131071, 262143, 524287, 1048575, 2097151, 4194303, 8388607, 16777215, 33554431, 67108863]) (ds := [some 20, some 21, some 22, some 23, some 24, some 25, some 26, some 27, some 28, some 29, some 30, some 31, some 32, some 33, some 34, some 35, some 36, some 37, some 38, some 39, some 40, some 41, some 42, some 43, some 44, some 45, some 19]) ⟨by kernel_rfl, by kernel_rfl, by kernel_rfl⟩ (fun tab1 => ?_)
 refine RunD.op (det _) tab1 1 (fun f' L' w' hc => Op1.move (v := .int .u8 _) (hc.old (v := .int .u8 _) rfl rfl rfl) ⟨[], ⟨rfl, rfl⟩, hc.st⟩) <| RunD.op (det _) tab1 2 (fun f' L' w' hc => Op1.eql (hc.det (j := 0) rfl rfl rfl rfl) rfl ⟨[], ⟨rfl, rfl⟩, hc.st⟩) <| RunD.op (det _) tab1 3 (fun f' L' w' hc => Op1.move (v := .bool _) (hc.det (j := 1) rfl rfl rfl rfl) ⟨[], ⟨rfl, rfl⟩, hc.st⟩) <| RunD.splitD (j := 2) rfl (fun g2 => ?_) (fun g2 => ?_)
 · skip
   refine RunD.omit tab1 4 rfl rfl (fun f' L' w' hc => (hc.det (j := 2) rfl rfl rfl rfl).trans (congrArg Value.bool (decide_eq_true g2))) <| RunD.omit tab1 5 rfl rfl (fun f' L' w' hc => (hc.det (j := 2) rfl rfl rfl rfl).trans (congrArg Value.bool (decide_eq_true g2))) <| RunD.omit tab1 6 rfl rfl (fun f' L' w' hc => (hc.det (j := 2) rfl rfl rfl rfl).trans (congrArg Value.bool (decide_eq_true g2))) <| RunD.omit tab1 7 rfl rfl (fun f' L' w' hc => (hc.det (j := 2) rfl rfl rfl rfl).trans (congrArg Value.bool (decide_eq_true g2))) <| RunD.fin followsMixed tab1 hst rfl (fun f3 w R6 hs4 hd5 hr7 hst => ?_)
   obtain ⟨h20_, r0⟩ := hd5 0 20 rfl rfl
   obtain ⟨h21_, r1⟩ := hd5 1 21 rfl rfl
   obtain ⟨h22_, r2⟩ := hd5 2 22 rfl rfl
   obtain ⟨h23_, r3⟩ := hd5 3 23 rfl rfl
   obtain ⟨h24_, r4⟩ := hd5 4 24 rfl rfl
   obtain ⟨h25_, r5⟩ := hd5 5 25 rfl rfl
   obtain ⟨h26_, r6⟩ := hd5 6 26 rfl rfl
   simp only [show List.range 7 = [0, 1, 2, 3, 4, 5, 6] from rfl, List.flatMap_cons, List.flatMap_nil, List.map_cons, List.map_nil, r0, r1, r2, r3, r4, r5, r6, List.nil_append, List.append_nil, List.cons_append] at hst
   refine RunL.slots (sl := [(0, .pointer (some ⟨_, _, none⟩)), (5, .pointer (some ⟨_, _, none⟩)), (7, .int .u8 _), (8, .bool _), (22, .bool _), (24, _), (26, _)]) ⟨(hs4 0 rfl).trans rfl, (hs4 5 rfl).trans rfl, (hs4 7 rfl).trans rfl, (hs4 8 rfl).trans rfl, h22_, h24_, h26_, trivial⟩ ?_
   clear hs4 hd5 hr7 tab1
   refine OM (t := 22) rfl (congrArg Value.bool (decide_eq_true g2)) rfl <| CN <| Op1.pickT (u := .bool _) (congrArg Value.bool (decide_eq_true g2)) rfl <| MB rfl <| OM (t := 29) rfl (congrArg Value.bool (rfl : true = _)) rfl <| OM (t := 29) rfl (congrArg Value.bool (rfl : true = _)) rfl <| RunL.omitU (t := 31) rfl rfl <| RunL.omitU (t := 31) rfl rfl <| RunL.omitU (t := 31) rfl rfl <| OM (t := 29) rfl (congrArg Value.bool (rfl : true = _)) rfl <| CN <| Op1.pickT (u := .bool _) (congrArg Value.bool (rfl : true = _)) rfl <| MB rfl <| OM (t := 37) rfl (congrArg Value.bool (rfl : true = _)) rfl <| OM (t := 37) rfl (congrArg Value.bool (rfl : true = _)) rfl <| OM (t := 37) rfl (congrArg Value.bool (rfl : true = _)) rfl <| RunL.omitU (t := 40) rfl rfl ?_
   refine RunL.omitU (t := 40) rfl rfl <| RunL.omitU (t := 40) rfl rfl <| OM (t := 37) rfl (congrArg Value.bool (rfl : true = _)) rfl <| CN <| Op1.pickT (u := .bool _) (congrArg Value.bool (rfl : true = _)) rfl <| AB rfl <| NL <| Run.forget [(0, .pointer (some ⟨_, _, none⟩)), (5, .pointer (some ⟨_, _, none⟩)), (7, .int .u8 _), (8, .bool _), (19, .bool _)] ⟨rfl, rfl, rfl, rfl, rfl, trivial⟩ fun f => run_cond_true (congrArg Value.bool (rfl : true = _)) <| SR <| AI rfl <| NL <| run_ret1 Try.func60 rfl (TP (v := .int .i64 _) rfl) ?_
   replace hst := hst.pick (.cons (.there (.here)) (.cons (.there (.here)) .nil))
   have hX : wrongA c a bound = 42 := wrongA_form (.inl (by omega))
   rw [hX]
   exact ⟨ao, cp, ws, room, rfl, fun h => absurd h (by decide), by omega, hr0, by omega, (St.pack (L1 := [_, _]) (L2 := []) hst)⟩
 refine RunD.take (det _) tab1 4 rfl (fun f' L' w' hc => (hc.det (j := 2) rfl rfl rfl rfl).trans (congrArg Value.bool (decide_eq_false g2))) (fun f' L' w' hc => Op1.fieldAddr fld35_0 (hc.old (v := .pointer (some ⟨_, _, none⟩)) rfl rfl rfl) ⟨[], ⟨rfl, rfl⟩, hc.st⟩) <| RunD.take (det _) tab1 5 rfl (fun f' L' w' hc => (hc.det (j := 2) rfl rfl rfl rfl).trans (congrArg Value.bool (decide_eq_false g2))) (fun f' L' w' hc => Op1.load1 (v := .int .u8 _) ty5 rfl (hc.det (j := 3) rfl rfl rfl rfl) (hc.st.cellL (List.mem_append_right _ (.head _)) rfl) ⟨[], ⟨rfl, rfl⟩, hc.st⟩) <| RunD.take (det _) tab1 6 rfl (fun f' L' w' hc => (hc.det (j := 2) rfl rfl rfl rfl).trans (congrArg Value.bool (decide_eq_false g2))) (fun f' L' w' hc => Op1.move (v := .int .u8 _) (hc.old (v := .int .u8 _) rfl rfl rfl) ⟨[], ⟨rfl, rfl⟩, hc.st⟩) <| RunD.take (det _) tab1 7 rfl (fun f' L' w' hc => (hc.det (j := 2) rfl rfl rfl rfl).trans (congrArg Value.bool (decide_eq_false g2))) (fun f' L' w' hc => Op1.call1 (v1 := .int .u8 _) ent69 rfl (hc.det (j := 5) rfl rfl rfl rfl) ((R5gr_Kind2 hkd _).mono fun v w hp => ⟨[], ⟨hp.1, rfl⟩, hc.st.keepc hp.2⟩)) <| RunD.fin followsMixed tab1 hst rfl (fun f8 w R11 hs9 hd10 hr12 hst => ?_)
 obtain ⟨h20_, r0⟩ := hd10 0 20 rfl rfl
 obtain ⟨h21_, r1⟩ := hd10 1 21 rfl rfl
 obtain ⟨h22_, r2⟩ := hd10 2 22 rfl rfl
 obtain ⟨h23_, r3⟩ := hd10 3 23 rfl rfl
 obtain ⟨h24_, r4⟩ := hd10 4 24 rfl rfl
 obtain ⟨h25_, r5⟩ := hd10 5 25 rfl rfl
 obtain ⟨h26_, r6⟩ := hd10 6 26 rfl rfl
 simp only [show List.range 7 = [0, 1, 2, 3, 4, 5, 6] from rfl, List.flatMap_cons, List.flatMap_nil, List.map_cons, List.map_nil, r0, r1, r2, r3, r4, r5, r6, List.nil_append, List.append_nil, List.cons_append] at hst
 refine RunL.slots (sl := [(0, .pointer (some ⟨_, _, none⟩)), (5, .pointer (some ⟨_, _, none⟩)), (7, .int .u8 _), (8, .bool _), (22, .bool _), (24, .int .u8 _), (26, .int .u8 _)]) ⟨(hs9 0 rfl).trans rfl, (hs9 5 rfl).trans rfl, (hs9 7 rfl).trans rfl, (hs9 8 rfl).trans rfl, h22_, h24_, h26_, trivial⟩ ?_
 clear hs9 hd10 hr12 tab1
 refine TK (t := 22) rfl (congrArg Value.bool (decide_eq_false g2)) <| Op1.neq rfl rfl <| CN <| Op1.pickF (u := .bool _) (congrArg Value.bool (decide_eq_false g2)) rfl <| MB rfl <| RunL.splitD (d := 29) rfl (fun g13 => ?_) (fun g13 => ?_)
 · skip
   refine OM (t := 29) rfl (congrArg Value.bool (decide_eq_true g13)) rfl <| OM (t := 29) rfl (congrArg Value.bool (decide_eq_true g13)) rfl <| RunL.omitU (t := 31) rfl rfl <| RunL.omitU (t := 31) rfl rfl <| RunL.omitU (t := 31) rfl rfl <| OM (t := 29) rfl (congrArg Value.bool (decide_eq_true g13)) rfl <| CN <| Op1.pickT (u := .bool _) (congrArg Value.bool (decide_eq_true g13)) rfl <| MB rfl <| OM (t := 37) rfl (congrArg Value.bool (rfl : true = _)) rfl <| OM (t := 37) rfl (congrArg Value.bool (rfl : true = _)) rfl <| OM (t := 37) rfl (congrArg Value.bool (rfl : true = _)) rfl <| RunL.omitU (t := 40) rfl rfl <| RunL.omitU (t := 40) rfl rfl <| RunL.omitU (t := 40) rfl rfl <| OM (t := 37) rfl (congrArg Value.bool (rfl : true = _)) rfl ?_
   refine CN <| Op1.pickT (u := .bool _) (congrArg Value.bool (rfl : true = _)) rfl <| AB rfl <| NL <| Run.forget [(0, .pointer (some ⟨_, _, none⟩)), (5, .pointer (some ⟨_, _, none⟩)), (7, .int .u8 _), (8, .bool _), (19, .bool _)] ⟨rfl, rfl, rfl, rfl, rfl, trivial⟩ fun f => run_cond_true (congrArg Value.bool (rfl : true = _)) <| SR <| AI rfl <| NL <| run_ret1 Try.func60 rfl (TP (v := .int .i64 _) rfl) ?_
   replace hst := hst.pick (.cons (.there (.here)) (.cons (.there (.here)) .nil))
   have hX : wrongA c a bound = 42 := wrongA_form (.inr (.inl (by rw [hkd]; omega)))
   rw [hX]
   exact ⟨ao, cp, ws, room, rfl, fun h => absurd h (by decide), by omega, hr0, by omega, (St.pack (L1 := [_, _]) (L2 := []) hst)⟩
 refine TK (t := 29) rfl (congrArg Value.bool (decide_eq_false g13)) <| Op1.move (v := .bool _) rfl <| TK (t := 29) rfl (congrArg Value.bool (decide_eq_false g13)) <| Op1.move (v := .bool _) rfl <| RunL.splitD (d := 31) rfl (fun g14 => ?_) (fun g14 => ?_)
 · skip
   refine TK (t := 31) rfl (congrArg Value.bool (decide_eq_true g14)) <| Op1.fieldAddr fld35_1 rfl <| TK (t := 31) rfl (congrArg Value.bool (decide_eq_true g14)) <| Op1.load1 (v := .int .u32 _) ty22 rfl rfl (hst.cellL (.head _) rfl) <| TK (t := 31) rfl (congrArg Value.bool (decide_eq_true g14)) <| Op1.neq rfl rfl <| TK (t := 29) rfl (congrArg Value.bool (decide_eq_false g13)) <| Op1.pickT (u := .bool _) (congrArg Value.bool (decide_eq_true g14)) rfl <| CN <| Op1.pickF (u := .bool _) (congrArg Value.bool (decide_eq_false g13)) rfl <| MB rfl <| RunL.splitD (d := 37) rfl (fun g15 => ?_) (fun g15 => ?_)
   · skip
     refine OM (t := 37) rfl (congrArg Value.bool (decide_eq_true g15)) rfl <| OM (t := 37) rfl (congrArg Value.bool (decide_eq_true g15)) rfl <| OM (t := 37) rfl (congrArg Value.bool (decide_eq_true g15)) rfl <| RunL.omitU (t := 40) rfl rfl <| RunL.omitU (t := 40) rfl rfl <| RunL.omitU (t := 40) rfl rfl <| OM (t := 37) rfl (congrArg Value.bool (decide_eq_true g15)) rfl <| CN <| Op1.pickT (u := .bool _) (congrArg Value.bool (decide_eq_true g15)) rfl <| AB rfl <| NL <| Run.forget [(0, .pointer (some ⟨_, _, none⟩)), (5, .pointer (some ⟨_, _, none⟩)), (7, .int .u8 _), (8, .bool _), (19, .bool _)] ⟨rfl, rfl, rfl, rfl, rfl, trivial⟩ fun f => run_cond_true (congrArg Value.bool (rfl : true = _)) <| SR <| AI rfl ?_
     refine NL <| run_ret1 Try.func60 rfl (TP (v := .int .i64 _) rfl) ?_
     replace hst := hst.pick (.cons (.there (.here)) (.cons (.there (.here)) .nil))
     have hX : wrongA c a bound = 42 := wrongA_form (.inr (.inr (.inl ⟨by omega, by omega⟩)))
     rw [hX]
     exact ⟨ao, cp, ws, room, rfl, fun h => absurd h (by decide), by omega, hr0, by omega, (St.pack (L1 := [_, _]) (L2 := []) hst)⟩
   refine TK (t := 37) rfl (congrArg Value.bool (decide_eq_false g15)) <| Op1.move (v := .bool _) rfl <| TK (t := 37) rfl (congrArg Value.bool (decide_eq_false g15)) <| Op1.notD rfl <| TK (t := 37) rfl (congrArg Value.bool (decide_eq_false g15)) <| Op1.move (v := .bool _) rfl <| RunL.splitD (d := 40) rfl (fun g16 => ?_) (fun g16 => ?_)
   · skip
     exfalso
     omega
   refine OM (t := 40) rfl (congrArg Value.bool (decide_eq_false g16)) rfl <| OM (t := 40) rfl (congrArg Value.bool (decide_eq_false g16)) rfl <| OM (t := 40) rfl (congrArg Value.bool (decide_eq_false g16)) rfl <| TK (t := 37) rfl (congrArg Value.bool (decide_eq_false g15)) <| Op1.pickF (u := .bool _) (congrArg Value.bool (decide_eq_false g16)) rfl <| CN <| Op1.pickF (u := .bool _) (congrArg Value.bool (decide_eq_false g15)) rfl <| AB rfl <| NL <| Run.forget [(0, .pointer (some ⟨_, _, none⟩)), (5, .pointer (some ⟨_, _, none⟩)), (7, .int .u8 _), (8, .bool _), (19, .bool _)] ⟨rfl, rfl, rfl, rfl, rfl, trivial⟩ fun f => run_cond_false (congrArg Value.bool (rfl : false = _)) <| SR <| MB rfl <| AB rfl <| NL <| run_cond_dec rfl (fun g17 => ?_) (fun g17 => ?_)
   · skip
     refine SR <| MP rfl <| CN <| Op1.fieldAddr fld35_2 rfl <| CN (Op1.load1 (v := str _) ty9 rfl rfl (hst.cellL (.head _) rfl) ?_)
     replace hst := hst.pick (.cons (.there (.here)) (.cons (.there (.here)) (.cons (.here) .nil)))
     replace hst : St _ _ (WrC 108 22 bq fm bound ao cp ws room :: _) _ _ := hst.pack (L1 := [_, _])
     refine CN (Op1.call2 (v1 := .pointer (some ⟨_, _, none⟩)) (v2 := str _) ent70 rfl rfl rfl ((R5cd_wtext bq fm bound ao cp ws room a.s hs _ (hst.hL _ (.head _)) hl hr0 hr1).mono fun v w hp => ?_))
     obtain ⟨ao2, cp2, ws2, room2, rfl, hE, hw2, hr2, hr3, hp⟩ := hp
     replace hst : St _ _ (WrC 108 22 bq fm bound ao2 cp2 ws2 room2 :: _) _ _ := hst.call1 hp
     clear hp
     refine AI rfl <| NL <| run_ret1 Try.func60 rfl (TP (v := .int .i64 _) rfl) ?_
     replace hst := hst.pick (.cons (.here) .nil)
     have hX := wrongA_text (c := c) (a := a) (bound := bound) (by omega) (by rw [hkd]; omega) (by omega) (by omega)
     have hY := argW_text (a := a) (by omega)
     rw [hX, hY.1, hY.2]
     exact ⟨ao2, cp2, ws2, room2, rfl, hE, hw2, hr2, hr3, hst⟩
   exfalso
   omega
 refine OM (t := 31) rfl (congrArg Value.bool (decide_eq_false g14)) rfl <| OM (t := 31) rfl (congrArg Value.bool (decide_eq_false g14)) rfl <| OM (t := 31) rfl (congrArg Value.bool (decide_eq_false g14)) rfl <| TK (t := 29) rfl (congrArg Value.bool (decide_eq_false g13)) <| Op1.pickF (u := .bool _) (congrArg Value.bool (decide_eq_false g14)) rfl <| CN <| Op1.pickF (u := .bool _) (congrArg Value.bool (decide_eq_false g13)) rfl <| MB rfl <| TK (t := 37) rfl (congrArg Value.bool (rfl : false = _)) <| Op1.move (v := .bool _) rfl <| TK (t := 37) rfl (congrArg Value.bool (rfl : false = _)) <| Op1.notD rfl <| TK (t := 37) rfl (congrArg Value.bool (rfl : false = _)) <| Op1.move (v := .bool _) rfl <| RunL.splitD (d := 40) rfl (fun g18 => ?_) (fun g18 => ?_)
 · skip
   refine TK (t := 40) rfl (congrArg Value.bool (decide_eq_true g18)) <| Op1.fieldAddr fld35_2 rfl <| TK (t := 40) rfl (congrArg Value.bool (decide_eq_true g18)) <| Op1.load1 (v := str _) ty9 rfl rfl (hst.cellL (.head _) rfl) <| TK (t := 40) rfl (congrArg Value.bool (decide_eq_true g18)) <| Op1.neqS rfl rfl <| TK (t := 37) rfl (congrArg Value.bool (rfl : false = _)) <| Op1.pickT (u := .bool _) (congrArg Value.bool (decide_eq_true g18)) rfl <| CN <| Op1.pickF (u := .bool _) (congrArg Value.bool (rfl : false = _)) rfl <| AB rfl <| NL <| Run.forget [(0, .pointer (some ⟨_, _, none⟩)), (5, .pointer (some ⟨_, _, none⟩)), (7, .int .u8 _), (8, .bool _), (19, .bool _)] ⟨rfl, rfl, rfl, rfl, rfl, trivial⟩ fun f => run_cond_dec rfl (fun g19 => ?_) (fun g19 => ?_)
   · skip
     refine SR <| AI rfl <| NL <| run_ret1 Try.func60 rfl (TP (v := .int .i64 _) rfl) ?_
     replace hst := hst.pick (.cons (.there (.here)) (.cons (.there (.here)) .nil))
     have hX : wrongA c a bound = 42 := wrongA_form (.inr (.inr (.inr ⟨by omega, by simpa using g19⟩)))
     rw [hX]
     exact ⟨ao, cp, ws, room, rfl, fun h => absurd h (by decide), by omega, hr0, by omega, (St.pack (L1 := [_, _]) (L2 := []) hst)⟩
   refine SR <| MB rfl <| AB rfl <| NL <| run_cond_dec rfl (fun g20 => ?_) (fun g20 => ?_)
   · skip
     exfalso
     omega
   refine run_skip <| run_inBlock <| SR <| MP rfl <| CN <| Op1.fieldAddr fld35_1 rfl <| CN (Op1.load1 (v := .int .u32 _) ty22 rfl rfl (hst.cellL (.head _) rfl) ?_)
   replace hst := hst.pick (.cons (.there (.here)) (.cons (.there (.here)) (.cons (.here) .nil)))
   replace hst : St _ _ (WrC 108 22 bq fm bound ao cp ws room :: _) _ _ := hst.pack (L1 := [_, _])
   refine CN (Op1.call2 (v1 := .pointer (some ⟨_, _, none⟩)) (v2 := .int .u32 _) ent66 rfl rfl rfl ((R5cd_put bq fm bound ao cp ws room _ _ (hst.hL _ (.head _)) hl hr0 hr1).mono fun v w hp => ?_))
   obtain ⟨ao2, cp2, hp⟩ := hp
   replace hst : St _ _ (WrC 108 22 bq fm bound ao2 cp2 (ws ++ [a.n]) (room + 1) :: _) _ _ := hst.call1 hp
   replace hst : St _ _ (_ :: _ :: _) _ _ := hst.unpack
   clear hp
   refine NL <| SQ <| SR <| CN <| Op1.fieldAddr fld35_0 rfl <| CN <| Op1.load1 (v := .int .u8 _) ty5 rfl rfl (hst.cellL (.tail _ (.tail _ (.head _))) rfl) <| NL <| run_block <| SR <| CN <| Op1.eql rfl rfl <| AB rfl <| NL <| run_cond_dec rfl (fun g21 => ?_) (fun g21 => ?_)
   · skip
     refine SQ <| RunD.start [] hst (bs := [0, 1, 0, 4, 12, 28, 63, 127]) (ds := [some 60, some 61, some 62, some 63, some 64, some 65, some 66, some 6]) ⟨by kernel_rfl, by kernel_rfl, by kernel_rfl⟩ (fun tab22 => ?_)
     refine RunD.op (det _) tab22 1 (fun f' L' w' hc => Op1.fieldAddr fld35_1 (hc.old (v := .pointer (some ⟨_, _, none⟩)) rfl rfl rfl) ⟨[], ⟨rfl, rfl⟩, hc.st⟩) <| RunD.op (det _) tab22 2 (fun f' L' w' hc => Op1.load1 (v := .int .u32 _) ty22 rfl (hc.det (j := 0) rfl rfl rfl rfl) (hc.st.cellL (List.mem_append_right _ (.tail _ (.tail _ (.head _)))) rfl) ⟨[], ⟨rfl, rfl⟩, hc.st⟩) <| RunD.op (det _) tab22 3 (fun f' L' w' hc => Op1.move (v := .pointer (some ⟨_, _, none⟩)) (hc.old (v := .pointer (some ⟨_, _, none⟩)) rfl rfl rfl) ⟨[], ⟨rfl, rfl⟩, hc.st⟩) <| RunD.op (det _) tab22 4 (fun f' L' w' hc => Op1.nilCheckP (hc.det (j := 2) rfl rfl rfl rfl) ⟨[], ⟨rfl, rfl⟩, hc.st⟩) <| RunD.op (det _) tab22 5 (fun f' L' w' hc => Op1.fieldAddr fld108_1 (hc.det (j := 3) rfl rfl rfl rfl) ⟨[], ⟨rfl, rfl⟩, hc.st⟩) <| RunD.op (det _) tab22 6 (fun f' L' w' hc => Op1.load1 (v := .int .u32 _) ty22 rfl (hc.det (j := 4) rfl rfl rfl rfl) (hc.st.cellL (List.mem_append_right _ (.head _)) rfl) ⟨[], ⟨rfl, rfl⟩, hc.st⟩) <| RunD.fin followsMixed tab22 hst rfl (fun f23 w R26 hs24 hd25 hr27 hst => ?_)
     obtain ⟨h60_, r0⟩ := hd25 0 60 rfl rfl
     obtain ⟨h61_, r1⟩ := hd25 1 61 rfl rfl
     obtain ⟨h62_, r2⟩ := hd25 2 62 rfl rfl
     obtain ⟨h63_, r3⟩ := hd25 3 63 rfl rfl
     obtain ⟨h64_, r4⟩ := hd25 4 64 rfl rfl
     obtain ⟨h65_, r5⟩ := hd25 5 65 rfl rfl
     simp only [show List.range 6 = [0, 1, 2, 3, 4, 5] from rfl, List.flatMap_cons, List.flatMap_nil, List.map_cons, List.map_nil, r0, r1, r2, r3, r4, r5, List.nil_append, List.append_nil, List.cons_append] at hst
     refine RunL.slots (sl := [(61, .int .u32 _), (65, .int .u32 _)]) ⟨h61_, h65_, trivial⟩ ?_
     clear hs24 hd25 hr27 tab22
     refine CN <| Op1.call2 (v1 := .int .u32 _) (v2 := .int .u32 _) ent67 rfl rfl rfl <| Ret.det (R5cd_id _ _ _) hst fun w hst => AI rfl <| NL <| run_ret1 Try.func60 rfl (TP (v := .int .i64 _) rfl) ?_
     replace hst := hst.pick (.cons (.here) (.cons (.here) .nil))
     have hX := wrongA_one (c := c) (a := a) (bound := bound) (by omega) (by rw [hkd]; omega) (by omega) (by simpa using g19)
     have hY := argW_one (a := a) (by omega)
     rw [if_pos (by omega)] at hX
     rw [hX, hY.1, hY.2]
     exact ⟨ao2, cp2, ws ++ [a.n], room + 1, rfl, fun _ => ⟨rfl, rfl⟩, by simp, by omega, by omega, (St.pack (L1 := [_, _]) (L2 := []) hst)⟩
   refine SR <| CN <| Op1.eql rfl rfl <| AB rfl <| NL <| run_cond_dec rfl (fun g28 => ?_) (fun g28 => ?_)
   · skip
     refine SR <| MC rfl <| CN <| Op1.fieldAddr fld35_1 rfl <| CN <| Op1.load1 (v := .int .u32 _) ty22 rfl rfl (hst.cellL (.tail _ (.tail _ (.head _))) rfl) <| CN <| Op1.call2 (v1 := .int .u8 _) (v2 := .int .u32 _) ent71 rfl rfl rfl <| Ret.det (R5cd_named _ _ hcb.1 hcb.2 _) hst fun w hst => AI rfl <| NL <| run_ret1 Try.func60 rfl (TP (v := .int .i64 _) rfl) ?_
     replace hst := hst.pick (.cons (.here) (.cons (.here) .nil))
     have hX := wrongA_one (c := c) (a := a) (bound := bound) (by omega) (by rw [hkd]; omega) (by omega) (by simpa using g19)
     have hY := argW_one (a := a) (by omega)
     rw [if_neg (by omega), if_pos (by omega)] at hX
     rw [hX, hY.1, hY.2]
     exact ⟨ao2, cp2, ws ++ [a.n], room + 1, rfl, fun _ => ⟨rfl, rfl⟩, by simp, by omega, by omega, (St.pack (L1 := [_, _]) (L2 := []) hst)⟩
   refine run_skip <| run_inBlock <| SR <| AI rfl <| NL <| run_ret1 Try.func60 rfl (TP (v := .int .i64 _) rfl) ?_
   replace hst := hst.pick (.cons (.here) (.cons (.here) .nil))
   have hX := wrongA_one (c := c) (a := a) (bound := bound) (by omega) (by rw [hkd]; omega) (by omega) (by simpa using g19)
   have hY := argW_one (a := a) (by omega)
   rw [if_neg (by omega), if_neg (by omega)] at hX
   rw [hX, hY.1, hY.2]
   exact ⟨ao2, cp2, ws ++ [a.n], room + 1, rfl, fun _ => ⟨rfl, rfl⟩, by simp, by omega, by omega, (St.pack (L1 := [_, _]) (L2 := []) hst)⟩
 exfalso
 omega
end Go.SK
namespace Go.SK
open Go Go.Proofs
theorem ty108 : TyF Try.prog 108 (.struct (fieldsOf Try.prog 108)) 11 120 [.int .u16 0, str [], .bool false, .bool false, str [], str [], .int .i64 0, .int .u8 0, .int .u32 0, .slice none 0 0, .int .i64 0] := TyF.of (by kernel_rfl) (by kernel_rfl)
theorem stf108 : StructF Try.prog 108 [(0, 8), (8, 1), (9, 1), (10, 1)] := ⟨fieldsOf Try.prog 108, by kernel_rfl, fun w => by kernel_rfl⟩
theorem ent59 : Enters Try.prog 59 := ⟨Try.f59, _, Try.func59, by kernel_rfl, rfl⟩
theorem ent60 : Enters Try.prog 60 := ⟨Try.f60, _, Try.func60, by kernel_rfl, rfl⟩
theorem ent61 : Enters Try.prog 61 := ⟨Try.f61, _, Try.func61, by kernel_rfl, rfl⟩
end Go.SK
