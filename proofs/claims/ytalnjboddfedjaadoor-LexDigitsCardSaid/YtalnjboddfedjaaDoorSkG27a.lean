/-
  Steps of functions, plain law, and walks of functions: what the laws rest on.
-/
import Derived.Test.YtalnjboddfedjaaDoorSkG0b
import Derived.Test.YtalnjboddfedjaaDoorSkG2a
import Derived.Test.YtalnjboddfedjaaDoorSkG4a
import Derived.Test.YtalnjboddfedjaaDoorSkG5a
import Derived.Test.YtalnjboddfedjaaDoorSkG7a
import Derived.Test.YtalnjboddfedjaaDoorSkG8a
import Derived.Test.YtalnjboddfedjaaDoorSkG9a
import Derived.Test.YtalnjboddfedjaaDoorSkG12a
import Derived.Test.YtalnjboddfedjaaDoorSkG13a
import Derived.Test.YtalnjboddfedjaaDoorSkG19a
import Derived.Test.YtalnjboddfedjaaDoorSkG20a
set_option linter.unusedVariables false
set_option linter.unusedSimpArgs false
set_option linter.unusedSectionVars false
namespace Go.SK
open Go.RowKit Go.ChangeShapes Go.WideShapes Go.ChangeAt
theorem has_u32 {n : Int} (h : IntKind.u32.has n) : 0 ≤ n ∧ n ≤ 4294967295 := by
  simpa [IntKind.has, IntKind.min, IntKind.max, IntKind.signed, IntKind.bits] using h
end Go.SK
namespace Go.SK
theorem dec_minus (n : Nat) (h : n < 4294967296) : numLx (45 :: Lib.decDigits n) = if 1 ≤ n ∧ n ≤ 2147483648 then (4294967296 - (n : Int), 0) else (0, 62) := by
  have hp : plainF (45 :: Lib.decDigits n) = none := by
    cases hq : plainF (45 :: Lib.decDigits n) with
    | none => rfl
    | some m => have := (plain_all hq).2; rw [List.all_cons, show digB 45 = false from by decide] at this; cases this
  have hd : plainF ((45 :: Lib.decDigits n).drop 1) = some n := dec_plain h
  by_cases hn : 1 ≤ n ∧ n ≤ 2147483648
  · rw [if_pos hn]; exact numF_minus2 hp ⟨by simp, rfl⟩ hd hn
  · rw [if_neg hn]; exact numF_minusBad2 hp ⟨by simp, rfl⟩ (fun m hm => by rw [hd] at hm; cases hm; exact hn)
theorem dec_all (n : Nat) (h : n < 4294967296) : (Lib.decDigits n).all digB = true := (plain_all (dec_plain h)).2
theorem dec_id (n : Nat) (h : n < 4294967296) : toksF (37 :: Lib.decDigits n) = ([⟨2, Lib.decDigits n, 0⟩], (0, 0)) := by
  have hw : wrL [⟨2, Lib.decDigits n, 0⟩] = some [37 :: Lib.decDigits n] := by
    rw [wrL, wr2_ok rfl (by rw [dec_plain h]; rfl)]; rfl
  have := forth_toks hw
  rw [join_one'] at this
  exact this
theorem dec_zero (n : Nat) (h : n < 4294967296) : toksF (37 :: Lib.decDigits n ++ [32, 48] ++ Lib.decDigits n) = ([], (62, ((Lib.decDigits n).length : Int) + 2)) := by
  have hlp := (dec_head (u := n)).1
  have hall := dec_all n h
  have e : 37 :: Lib.decDigits n ++ [32, 48] ++ Lib.decDigits n = (37 :: Lib.decDigits n) ++ 32 :: 48 :: Lib.decDigits n := by simp
  rw [e]
  have hw : wrT ⟨2, Lib.decDigits n, 0⟩ = some (37 :: Lib.decDigits n) := wr2_ok rfl (by rw [dec_plain h]; rfl)
  obtain ⟨h1, h2, h3, h4⟩ := wr_read (y := 32 :: 48 :: Lib.decDigits n) hw (.inr rfl)
  have I0 := toksI_start ((37 :: Lib.decDigits n) ++ 32 :: 48 :: Lib.decDigits n)
  have hlen : ((37 :: Lib.decDigits n) ++ 32 :: 48 :: Lib.decDigits n).length = 2 * (Lib.decDigits n).length + 3 := by simp; omega
  have I1 := toksI_ok I0 (by omega) (show ¬ (37 : UInt8).toNat = 59 by decide) (show ¬ blankB 37 = true by decide) h1
  rw [Nat.zero_add] at I1
  have hdr : ((37 :: Lib.decDigits n) ++ 32 :: 48 :: Lib.decDigits n).drop (37 :: Lib.decDigits n).length = 32 :: 48 :: Lib.decDigits n := List.drop_left
  have hg1 : ((37 :: Lib.decDigits n) ++ 32 :: 48 :: Lib.decDigits n).getD (37 :: Lib.decDigits n).length 0 = 32 := by rw [← drop_get0, hdr]; rfl
  have I2 := toksI_blank I1 (by rw [hlen, List.length_cons]; omega) (by rw [hg1]; decide) (by rw [hg1]; decide)
  have hdr2 : ((37 :: Lib.decDigits n) ++ 32 :: 48 :: Lib.decDigits n).drop ((37 :: Lib.decDigits n).length + 1) = 48 :: Lib.decDigits n := by rw [← drop1, hdr]; rfl
  have hg2 : ((37 :: Lib.decDigits n) ++ 32 :: 48 :: Lib.decDigits n).getD ((37 :: Lib.decDigits n).length + 1) 0 = 48 := by rw [← drop_get0, hdr2]; rfl
  have hbad : tokF (48 :: Lib.decDigits n) = .error 62 := by
    have hr : runF ((48 :: Lib.decDigits n).drop (0 + 1)) = Lib.decDigits n := runF_self (dig_run_all hall)
    have ht : ((48 :: Lib.decDigits n).drop 0).take (1 + (runF ((48 :: Lib.decDigits n).drop (0 + 1))).length) = 48 :: Lib.decDigits n := by
      rw [hr, List.drop_zero, List.take_of_length_le (by rw [List.length_cons]; omega)]
    have hn : ¬ (numLx (48 :: Lib.decDigits n)).2 = 0 := by
      have hp : plainF (48 :: Lib.decDigits n) = none := by rw [plainF_eq, if_pos (.inr (.inr ⟨by rw [List.length_cons]; omega, rfl⟩))]
      have hx : ((48 :: Lib.decDigits n).getD 1 0).toNat ≠ 120 := by
        have := dig_bd (all_get hall hlp)
        show ((Lib.decDigits n).getD 0 0).toNat ≠ 120; omega
      rw [numF_bad hp (fun q => absurd (show (48 : UInt8).toNat = 45 from q.2) (by decide)) (.inr (.inr (.inr hx)))]; decide
    have := tok_numNo (s := 48 :: Lib.decDigits n) (a := 0) (.inl (show digB 48 = true by decide)) ht hn
    exact this
  have E := toksI_err I2 (by rw [hlen, List.length_cons]; omega) (by rw [hg2]; decide) (by rw [hg2]; decide) (by rw [hdr2]; exact hbad)
  rw [E, List.length_cons]; refine Prod.ext rfl (Prod.ext rfl ?_); dsimp only; omega
end Go.SK
namespace Go.SK
theorem dec_step {m : Nat} (h : 9 < m) : Lib.decDigits m = Lib.decDigits (m / 10) ++ [UInt8.ofNat (48 + m % 10)] := by rw [Lib.decDigits, dif_neg (by omega)]
theorem dec_one {m : Nat} (h : m ≤ 9) : Lib.decDigits m = [UInt8.ofNat (48 + m)] := by rw [Lib.decDigits, dif_pos (by omega)]
theorem dec_byte {m : Nat} (h : m ≤ 9) : ((UInt8.ofNat (48 + m)).toNat : Int) = 48 + (m : Int) := by rw [UInt8.toNat_ofNat']; omega
end Go.SK
namespace Go.SK
open Go Go.Proofs
theorem ent27 : Enters Tryd.prog 27 := ⟨Tryd.f27, _, Tryd.func27, by kernel_rfl, rfl⟩
end Go.SK
namespace Go.SK
open Go Go.Proofs
open Go.RowKit
theorem R4lx_NumE (s : Tx) (a e : Int) (h : numLx s = (a, e)) (w : World) (hG : LxG.holds w) (hl : s.length ≤ 140737488355328) : Ret Tryd.prog 19 #[str s] w (fun v w' => v = .tuple #[.int .u32 a, .int .i64 e] ∧ St w NoM [] [] w') := by
 refine (R4lx_lNumber s w hG hl).mono fun v w' ⟨hv, hst⟩ => ⟨?_, hst⟩
 rw [hv, h]
theorem R4lx_NumM (n : Nat) (hn : n < 4294967296) (w : World) (hG : LxG.holds w) (hl : (Lib.decDigits n).length ≤ 10) : Ret Tryd.prog 19 #[str ([45] ++ Lib.decDigits n)] w (fun v w' => ((1 ≤ n ∧ n ≤ 2147483648) ∧ v = .tuple #[.int .u32 (4294967296 - (n : Int)), .int .i64 0] ∧ St w NoM [] [] w') ∨ (¬ (1 ≤ n ∧ n ≤ 2147483648) ∧ v = .tuple #[.int .u32 0, .int .i64 62] ∧ St w NoM [] [] w')) := by
 have h := dec_minus n hn
 refine (R4lx_lNumber ([45] ++ Lib.decDigits n) w hG (by rw [List.length_append]; simp; omega)).mono fun v w' ⟨hv, hst⟩ => ?_
 rw [show numLx ([45] ++ Lib.decDigits n) = _ from h] at hv
 split at hv
 · exact .inl ⟨by assumption, hv, hst⟩
 · exact .inr ⟨by assumption, hv, hst⟩
theorem R4lx_digits (n : Nat) (hn : n < 4294967296) (w : World) : Ret Tryd.prog 27 #[.int .u32 (n : Int)] w (fun v w' => v = str (Lib.decDigits n) ∧ St w NoM [] [] w') := by
 refine Ret.enter (args := [.int .u32 (n : Int)]) Tryd.func27 rfl rfl rfl ?_
 have hst := St.init w
 have hdl : (Lib.decDigits n).length ≤ 10 := by rw [dec_len]; exact nDigits_le (k := 9) (by omega)
 refine SR <| AS rfl <| NSR <| AS rfl <| NL <| SQ <| run_block <| run_loop <| Run.indW [] trivial (fun (qq : Nat × Tx) => [(0, .int .u32 (qq.1 : Int)), (3, str qq.2)]) (fun (qq : Nat × Tx) => []) (fun (qq : Nat × Tx) => Lib.decDigits n = Lib.decDigits qq.1 ++ qq.2 ∧ qq.1 ≤ n ∧ qq.2.length ≤ 10) (fun (qq : Nat × Tx) => qq.1) ((n, [])) hst ⟨(List.append_nil _).symm, Nat.le_refl _, Nat.zero_le _⟩ ⟨rfl, rfl, trivial⟩ ?_
 intro ⟨m, t⟩ f w hst hJ ih1
 replace hst : St _ _ ([] ++ []) _ _ := hst
 replace hJ : Lib.decDigits n = Lib.decDigits m ++ t ∧ m ≤ n ∧ t.length ≤ 10 := hJ
 refine Run.slots (sl := [(0, .int .u32 (m : Int)), (3, str t)]) ⟨rfl, rfl, trivial⟩ ?_
 have hJ2 := hJ.2.1
 have hJ3 := hJ.2.2
 refine SQ <| SR <| MU rfl <| CN <| Op1.gtr rfl rfl <| NL <| run_cond_dec rfl (fun g2 => ?_) (fun g2 => ?_)
 · skip
   refine run_skip <| run_block <| SR <| MU rfl ?_
   first | refine CN (Op1.remN rfl rfl (by omega) (by omega) rfl ?_) | refine CN (Op1.rem rfl rfl (by omega) ?_)
   refine CN (Op1.addN rfl rfl rfl (wrap_u32 (by omega) (by omega)) ?_)
   first | refine CN (Op1.convN ty33 ty5 rfl (wrap_u8 (by omega) (by omega)) ?_) | refine CN (Op1.conv ty33 ty5 rfl ?_)
   refine CN (Op1.buildSl (z0 := [.int .u8 0]) hst ty70 ty5 rfl rfl (by kernel_rfl) (.c (v := .int .u8 _) rfl (h := .nil)) fun w b10 hst => ?_)
   refine CN <| Op1.bytesStr2 (l := [UInt8.ofNat (48 + m % 10)]) ty70 ty5 ty9 rfl rfl (Res.rs_of_row (n := 1) (es := 1) (hst.hL _ (.head _)) rfl) (by show [Value.int .u8 (48 + ((m : Int) % 10 : Int))] = [Value.int .u8 _]; rw [dec_byte (m := m % 10) (by omega)]; rfl) <| MS rfl <| CN <| Op1.addS rfl rfl (by first | omega | (simp only [List.length_cons, List.length_nil, List.length_append]; omega) | (simp; omega)) <| AS rfl <| NR <| MU rfl ?_
   first | refine CN (Op1.quoN rfl rfl (by omega) (by omega) rfl (wrap_u32 (by omega) (by omega)) ?_) | refine CN (Op1.quo rfl rfl (by omega) ?_)
   refine AU rfl <| NL <| run_inBlock <| run_inLoop ?_
   have hds := dec_step (m := m) (by omega)
   replace hst := hst.pick .nil
   exact ih1 ((m / 10, [UInt8.ofNat (48 + m % 10)] ++ t)) _ w ((by (try dsimp only); omega)) hst (⟨by (try dsimp only); rw [hJ.1, hds, List.append_assoc], by (try dsimp only); omega, by (try dsimp only); rw [List.length_append, List.length_singleton]; have hz := congrArg List.length hJ.1; rw [hds] at hz; simp only [List.length_append, List.length_singleton] at hz; omega⟩) trivial ⟨(congrArg (Value.int .u32) (by (try dsimp only); omega)), rfl, trivial⟩
 refine run_exit (id := 0) rfl <| SR <| MU rfl <| CN (Op1.addN rfl rfl rfl (wrap_u32 (by omega) (by omega)) ?_)
 first | refine CN (Op1.convN ty33 ty5 rfl (wrap_u8 (by omega) (by omega)) ?_) | refine CN (Op1.conv ty33 ty5 rfl ?_)
 refine CN (Op1.buildSl (z0 := [.int .u8 0]) hst ty70 ty5 rfl rfl (by kernel_rfl) (.c (v := .int .u8 _) rfl (h := .nil)) fun w b19 hst => ?_)
 refine CN <| Op1.bytesStr2 (l := [UInt8.ofNat (48 + m)]) ty70 ty5 ty9 rfl rfl (Res.rs_of_row (n := 1) (es := 1) (hst.hL _ (.head _)) rfl) (by show [Value.int .u8 (48 + ((m : Int) : Int))] = [Value.int .u8 _]; rw [dec_byte (m := m) (by omega)]) <| MS rfl <| CN <| Op1.addS rfl rfl (by first | omega | (simp only [List.length_cons, List.length_nil, List.length_append]; omega) | (simp; omega)) <| AS rfl <| NL <| run_ret1 Tryd.func27 rfl (TP (v := str _) rfl) ?_
 rw [hJ.1, dec_one (by omega)]
 exact ⟨rfl, hst.pure⟩
theorem R4law_LexDigits (n : Nat) (hn : n < 4294967296) (w : World) (hG : LxG.holds w) : Ret Tryd.prog 11 #[.int .u32 (n : Int)] w (fun v w' => v = .bool true ∧ St w NoM [] [] w') := by
 refine Ret.enter (args := [.int .u32 (n : Int)]) Tryd.func11 rfl rfl rfl ?_
 have hst : St w NoM [] [LxG] w := St.init_Ds (by simp only [List.forall_mem_cons]; exact ⟨hG, fun _ h => absurd h List.not_mem_nil⟩)
 have hdl : (Lib.decDigits n).length ≤ 10 := by rw [dec_len]; exact nDigits_le (k := 9) (by omega)
 refine SR <| AB rfl <| NSR <| MU rfl <| CN <| Op1.call1 (v1 := .int .u32 _) ent27 rfl rfl <| Ret.det (R4lx_digits n hn _) hst fun w hst => AS rfl <| NSR <| MS rfl <| CN <| Op1.call1 (v1 := str _) ent19 rfl rfl <| Ret.det (R4lx_NumE (Lib.decDigits n) (n : Int) 0 (numF_plain (dec_plain hn)) _ (hst.hD _ (.head _)) (by omega)) hst fun w hst => CN (Op1.move (v := .tuple #[.int .u32 _, .int .i64 _]) rfl ?_)
 refine CN <| Op1.extract (v := .int .u32 _) rfl rfl <| CN <| Op1.extract (v := .int .i64 _) rfl rfl <| AU rfl <| AI rfl <| NL <| SQ <| SR <| MU rfl <| MU rfl <| CN <| Op1.neq rfl rfl <| MB rfl <| RunL.splitD (d := 22) rfl (fun g1 => ?_) (fun g1 => ?_)
 · skip
   exfalso
   exact g1 rfl
 refine TK (t := 22) rfl (congrArg Value.bool (decide_eq_false g1)) <| Op1.move (v := .int .i64 _) rfl <| TK (t := 22) rfl (congrArg Value.bool (decide_eq_false g1)) <| Op1.neq rfl rfl <| CN <| Op1.pickF (u := .bool _) (congrArg Value.bool (decide_eq_false g1)) rfl <| NL <| run_cond_dec rfl (fun g2 => ?_) (fun g2 => ?_)
 · skip
   exfalso
   exact g2 rfl
 refine run_skip <| SR <| MS rfl <| CN <| Op1.addS rfl rfl (by first | omega | (simp only [List.length_cons, List.length_nil, List.length_append]; omega) | (simp; omega)) <| CN (Op1.call1 (v1 := str _) ent19 rfl rfl ((R4lx_NumM n hn _ (hst.hD _ (.head _)) hdl).mono fun v w hp => ?_))
 rcases hp with ⟨hr, rfl, hp⟩ | ⟨hr, rfl, hp⟩
 · skip
   replace hst := hst.keepc hp
   clear hp
   refine CN <| Op1.move (v := .tuple #[.int .u32 _, .int .i64 _]) rfl <| CN <| Op1.extract (v := .int .u32 _) rfl rfl <| CN <| Op1.extract (v := .int .i64 _) rfl rfl <| AU rfl <| AI rfl <| NL <| Run.forget [(0, .int .u32 _), (3, str _), (6, .int .u32 _), (7, .int .i64 _)] ⟨rfl, rfl, rfl, rfl, trivial⟩ fun f => SQ <| SR <| MU rfl <| CN <| Op1.geq rfl rfl <| MB rfl <| RunL.splitD (d := 34) rfl (fun g3 => ?_) (fun g3 => ?_)
   · skip
     refine TK (t := 34) rfl (congrArg Value.bool (decide_eq_true g3)) <| Op1.move (v := .int .u32 _) rfl <| TK (t := 34) rfl (congrArg Value.bool (decide_eq_true g3)) <| Op1.leq rfl rfl <| CN <| Op1.pickT (u := .bool _) (congrArg Value.bool (decide_eq_true g3)) rfl <| NL <| run_cond_dec rfl (fun g4 => ?_) (fun g4 => ?_)
     · skip
       refine SR <| MI rfl <| CN <| Op1.neq rfl rfl <| MB rfl <| RunL.splitD (d := 40) rfl (fun g5 => ?_) (fun g5 => ?_)
       · skip
         exfalso
         exact g5 rfl
       refine TK (t := 40) rfl (congrArg Value.bool (decide_eq_false g5)) <| Op1.move (v := .int .u32 _) rfl <| TK (t := 40) rfl (congrArg Value.bool (decide_eq_false g5)) <| Op1.move (v := .int .u32 _) rfl <| TK (t := 40) rfl (congrArg Value.bool (decide_eq_false g5)) <| Op1.add rfl rfl <| TK (t := 40) rfl (congrArg Value.bool (decide_eq_false g5)) <| Op1.neq rfl rfl <| CN <| Op1.pickF (u := .bool _) (congrArg Value.bool (decide_eq_false g5)) rfl <| NL <| run_cond_dec rfl (fun g6 => ?_) (fun g6 => ?_)
       · skip
         exfalso
         exact g6 (by rw [show (4294967296 : Int) - n + n = 4294967296 by omega]; decide)
       refine run_skip <| SR <| MS rfl <| CN <| Op1.addS rfl rfl (by first | omega | (simp only [List.length_cons, List.length_nil, List.length_append]; omega) | (simp; omega)) <| CN <| Op1.addS rfl rfl (by first | omega | (simp only [List.length_cons, List.length_nil, List.length_append]; omega) | (simp; omega)) <| MS rfl <| CN <| Op1.addS rfl rfl (by first | omega | (simp only [List.length_cons, List.length_nil, List.length_append]; omega) | (simp; omega)) <| CN (Op1.call1 (v1 := str _) ent15 rfl rfl ((R4lx_TokE ([37] ++ Lib.decDigits n ++ [32, 48] ++ Lib.decDigits n) [] 62 (((Lib.decDigits n).length : Int) + 2) (dec_zero n hn) _ (hst.hD _ (.head _)) (by simp only [List.length_append, List.length_cons, List.length_nil]; omega)).mono fun v w hp => ?_))
       obtain ⟨ao_x1, cp_x1, rfl, hp⟩ := hp
       replace hst := hst.call0 hp
       clear hp
       refine CN <| Op1.move (v := .tuple #[.slice _ _ _, .agg #[.int .i64 _, .int .i64 _]]) rfl <| CN <| Op1.extract (v := .slice _ _ _) rfl rfl <| CN <| Op1.extract (v := .agg #[.int .i64 _, .int .i64 _]) rfl rfl <| CN <| Op1.alloc hst ty25 fun w b9 hst => AL rfl <| CN (SO (v := .agg #[.int .i64 _, .int .i64 _]) hst ty25 rfl rfl (.here) fun w hst => ?_)
       refine NL <| Run.forget [(3, str _), (8, .slice _ _ _), (9, .pointer (some ⟨_, _, none⟩))] ⟨rfl, rfl, rfl, trivial⟩ fun f => SR <| MS rfl <| CN <| Op1.addS rfl rfl (by first | omega | (simp only [List.length_cons, List.length_nil, List.length_append]; omega) | (simp; omega)) <| CN (Op1.call1 (v1 := str _) ent15 rfl rfl ((R4lx_TokE ([37] ++ Lib.decDigits n) [⟨2, Lib.decDigits n, 0⟩] 0 0 (dec_id n hn) _ (hst.hD _ (.head _)) (by simp only [List.length_append, List.length_cons, List.length_nil]; omega)).mono fun v w hp => ?_))
       obtain ⟨ao_x2, cp_x2, rfl, hp⟩ := hp
       replace hst := hst.call0 hp
       clear hp
       refine CN <| Op1.move (v := .tuple #[.slice _ _ _, .agg #[.int .i64 _, .int .i64 _]]) rfl <| CN <| Op1.extract (v := .slice _ _ _) rfl rfl <| CN <| Op1.extract (v := .agg #[.int .i64 _, .int .i64 _]) rfl rfl <| CN <| Op1.alloc hst ty25 fun w b11 hst => AL rfl <| CN (SO (v := .agg #[.int .i64 _, .int .i64 _]) hst ty25 rfl rfl (.here) fun w hst => ?_)
       refine NL <| SQ <| SR <| CN <| Op1.fieldAddr fld25_0 rfl <| CN <| Op1.load1 (v := .int .i64 _) ty23 rfl rfl (hst.cellL (.head _) rfl) <| CN <| Op1.neq rfl rfl <| MB rfl <| RunL.splitD (d := 70) rfl (fun g7 => ?_) (fun g7 => ?_)
       · skip
         exfalso
         exact g7 rfl
       refine TK (t := 70) rfl (congrArg Value.bool (decide_eq_false g7)) <| Op1.move (v := .slice _ _ _) rfl <| TK (t := 70) rfl (congrArg Value.bool (decide_eq_false g7)) <| Op1.lenSl (rest := []) ty22 rfl <| TK (t := 70) rfl (congrArg Value.bool (decide_eq_false g7)) <| Op1.neq rfl rfl <| CN <| Op1.pickF (u := .bool _) (congrArg Value.bool (decide_eq_false g7)) rfl <| MB rfl <| RunL.splitD (d := 75) rfl (fun g8 => ?_) (fun g8 => ?_)
       · skip
         exfalso
         exact g8 rfl
       refine TK (t := 75) rfl (congrArg Value.bool (decide_eq_false g8)) <| Op1.move (v := .slice _ _ _) rfl <| TK (t := 75) rfl (congrArg Value.bool (decide_eq_false g8)) <| Op1.indexRs ty22 ty30 ((Res.rs_of_sl (hst.hL _ (.tail _ (.head _))))) rfl rfl (by omega) (by omega) <| TK (t := 75) rfl (congrArg Value.bool (decide_eq_false g8)) <| Op1.loadA (vs := [.int .u8 _, str _, .int .i64 _]) ty30 rfl rfl rfl (Res.rs2_cells (m := 3) ((Res.rs_of_sl (hst.hL _ (.tail _ (.head _))))) _ (flat_seg (g := tokC) (d := tok0) tokC_len _ _ (by omega))) <| TK (t := 75) rfl (congrArg Value.bool (decide_eq_false g8)) <| Op1.move (v := str _) rfl <| TK (t := 75) rfl (congrArg Value.bool (decide_eq_false g8)) (Op1.buildStruct ty30 stf30 (.c (v := .int .u8 _) rfl (h := (.c (v := str _) rfl (h := .nil)))) ?_)
       refine TK (t := 75) rfl (congrArg Value.bool (decide_eq_false g8)) <| Op1.neqA (xs := [.int .u8 _, str _, .int .i64 _]) (ys := [.int .u8 _, str _, .int .i64 _]) rfl rfl (by kernel_rfl) (EqOk.struct Tryd.underlying30 (by kernel_rfl) (.cons (by decide) (PartOk.one ty5 rfl rfl) (PartOk.one ty5 rfl rfl) (EqOk.int ty5) (.cons (by decide) (PartOk.one ty9 rfl rfl) (PartOk.one ty9 rfl rfl) (EqOk.str ty9) (.cons (by decide) (PartOk.one ty3 rfl rfl) (PartOk.one ty3 rfl rfl) (EqOk.int ty3) .nil)))) <| CN <| Op1.pickF (u := .bool _) (congrArg Value.bool (decide_eq_false g8)) rfl <| NL <| Run.forget [(3, str _), (8, .slice _ _ _), (9, .pointer (some ⟨_, _, none⟩)), (82, .bool _)] ⟨rfl, rfl, rfl, rfl, trivial⟩ fun f => run_cond_split rfl (fun g9 => ?_) (fun g9 => ?_)
       · skip
         exfalso
         simp at g9
       refine run_skip <| SR <| CN <| Op1.loadA (vs := [.int .i64 _, .int .i64 _]) ty25 rfl rfl rfl (cells_of_obj (n := 2) (hst.objL (.tail _ (.tail _ (.head _)))) _ rfl) <| MS rfl <| CN <| Op1.lenS (rest := []) ty9 rfl <| CN <| Op1.addN rfl rfl rfl (wrap_i64 (by omega) (by omega)) <| CN (Op1.buildStruct ty25 stf25 (.c (v := .int .i64 _) rfl (h := (.c (v := .int .i64 _) rfl (h := .nil)))) ?_)
       refine CN <| Op1.eqlA (xs := [.int .i64 _, .int .i64 _]) (ys := [.int .i64 _, .int .i64 _]) rfl rfl (by kernel_rfl) (EqOk.struct Tryd.underlying25 (by kernel_rfl) (.cons (by decide) (PartOk.one ty23 rfl rfl) (PartOk.one ty23 rfl rfl) (EqOk.int ty23) (.cons (by decide) (PartOk.one ty3 rfl rfl) (PartOk.one ty3 rfl rfl) (EqOk.int ty3) .nil))) <| MB rfl <| RunL.split (d := 89) rfl (fun g10 => ?_) (fun g10 => ?_)
       · skip
         refine TK (t := 89) rfl (congrArg Value.bool g10) <| Op1.move (v := .slice _ _ _) rfl <| TK (t := 89) rfl (congrArg Value.bool g10) <| Op1.lenSl (rest := []) ty22 rfl <| TK (t := 89) rfl (congrArg Value.bool g10) <| Op1.eql rfl rfl <| CN <| Op1.pickT (u := .bool _) (congrArg Value.bool g10) rfl <| MB rfl <| RunL.splitD (d := 94) rfl (fun g11 => ?_) (fun g11 => ?_)
         · skip
           refine TK (t := 94) rfl (congrArg Value.bool (decide_eq_true g11)) (Op1.call0  ent17 rfl  ((R4lx_awake _ (hst.hD _ (.head _))).mono fun v w hp => ?_))
           obtain ⟨rfl, hp⟩ := hp
           replace hst := hst.keepc hp
           clear hp
           refine CN <| Op1.pickT (u := .bool _) (congrArg Value.bool (decide_eq_true g11)) rfl <| AB rfl <| NL <| run_ret1 Tryd.func11 rfl (TP (v := .bool _) rfl) ?_
           exact ⟨rfl, hst.pure⟩
         exfalso
         exact g11 rfl
       exfalso
       simp at g10
     exfalso
     omega
   exfalso
   omega
 · skip
   replace hst := hst.keepc hp
   clear hp
   refine CN <| Op1.move (v := .tuple #[.int .u32 _, .int .i64 _]) rfl <| CN <| Op1.extract (v := .int .u32 _) rfl rfl <| CN <| Op1.extract (v := .int .i64 _) rfl rfl <| AU rfl <| AI rfl <| NL <| Run.forget [(0, .int .u32 _), (3, str _), (6, .int .u32 _), (7, .int .i64 _)] ⟨rfl, rfl, rfl, rfl, trivial⟩ fun f => SQ <| SR <| MU rfl <| CN <| Op1.geq rfl rfl <| MB rfl <| RunL.splitD (d := 34) rfl (fun g12 => ?_) (fun g12 => ?_)
   · skip
     refine TK (t := 34) rfl (congrArg Value.bool (decide_eq_true g12)) <| Op1.move (v := .int .u32 _) rfl <| TK (t := 34) rfl (congrArg Value.bool (decide_eq_true g12)) <| Op1.leq rfl rfl <| CN <| Op1.pickT (u := .bool _) (congrArg Value.bool (decide_eq_true g12)) rfl <| NL <| run_cond_dec rfl (fun g13 => ?_) (fun g13 => ?_)
     · skip
       exfalso
       omega
     refine SR <| MI rfl <| CN <| Op1.neq rfl rfl <| MB rfl <| RunL.splitD (d := 48) rfl (fun g14 => ?_) (fun g14 => ?_)
     · skip
       exfalso
       exact g14 rfl
     refine TK (t := 48) rfl (congrArg Value.bool (decide_eq_false g14)) <| Op1.move (v := .int .u32 _) rfl <| TK (t := 48) rfl (congrArg Value.bool (decide_eq_false g14)) <| Op1.neq rfl rfl <| CN <| Op1.pickF (u := .bool _) (congrArg Value.bool (decide_eq_false g14)) rfl <| NL <| run_cond_dec rfl (fun g15 => ?_) (fun g15 => ?_)
     · skip
       exfalso
       exact g15 rfl
     refine run_skip <| SR <| MS rfl <| CN <| Op1.addS rfl rfl (by first | omega | (simp only [List.length_cons, List.length_nil, List.length_append]; omega) | (simp; omega)) <| CN <| Op1.addS rfl rfl (by first | omega | (simp only [List.length_cons, List.length_nil, List.length_append]; omega) | (simp; omega)) <| MS rfl <| CN <| Op1.addS rfl rfl (by first | omega | (simp only [List.length_cons, List.length_nil, List.length_append]; omega) | (simp; omega)) <| CN (Op1.call1 (v1 := str _) ent15 rfl rfl ((R4lx_TokE ([37] ++ Lib.decDigits n ++ [32, 48] ++ Lib.decDigits n) [] 62 (((Lib.decDigits n).length : Int) + 2) (dec_zero n hn) _ (hst.hD _ (.head _)) (by simp only [List.length_append, List.length_cons, List.length_nil]; omega)).mono fun v w hp => ?_))
     obtain ⟨ao_x1, cp_x1, rfl, hp⟩ := hp
     replace hst := hst.call0 hp
     clear hp
     refine CN <| Op1.move (v := .tuple #[.slice _ _ _, .agg #[.int .i64 _, .int .i64 _]]) rfl <| CN <| Op1.extract (v := .slice _ _ _) rfl rfl <| CN <| Op1.extract (v := .agg #[.int .i64 _, .int .i64 _]) rfl rfl <| CN <| Op1.alloc hst ty25 fun w b9 hst => AL rfl <| CN (SO (v := .agg #[.int .i64 _, .int .i64 _]) hst ty25 rfl rfl (.here) fun w hst => ?_)
     refine NL <| Run.forget [(3, str _), (8, .slice _ _ _), (9, .pointer (some ⟨_, _, none⟩))] ⟨rfl, rfl, rfl, trivial⟩ fun f => SR <| MS rfl <| CN <| Op1.addS rfl rfl (by first | omega | (simp only [List.length_cons, List.length_nil, List.length_append]; omega) | (simp; omega)) <| CN (Op1.call1 (v1 := str _) ent15 rfl rfl ((R4lx_TokE ([37] ++ Lib.decDigits n) [⟨2, Lib.decDigits n, 0⟩] 0 0 (dec_id n hn) _ (hst.hD _ (.head _)) (by simp only [List.length_append, List.length_cons, List.length_nil]; omega)).mono fun v w hp => ?_))
     obtain ⟨ao_x2, cp_x2, rfl, hp⟩ := hp
     replace hst := hst.call0 hp
     clear hp
     refine CN <| Op1.move (v := .tuple #[.slice _ _ _, .agg #[.int .i64 _, .int .i64 _]]) rfl <| CN <| Op1.extract (v := .slice _ _ _) rfl rfl <| CN <| Op1.extract (v := .agg #[.int .i64 _, .int .i64 _]) rfl rfl <| CN <| Op1.alloc hst ty25 fun w b11 hst => AL rfl <| CN (SO (v := .agg #[.int .i64 _, .int .i64 _]) hst ty25 rfl rfl (.here) fun w hst => ?_)
     refine NL <| SQ <| SR <| CN <| Op1.fieldAddr fld25_0 rfl <| CN <| Op1.load1 (v := .int .i64 _) ty23 rfl rfl (hst.cellL (.head _) rfl) <| CN <| Op1.neq rfl rfl <| MB rfl <| RunL.splitD (d := 70) rfl (fun g16 => ?_) (fun g16 => ?_)
     · skip
       exfalso
       exact g16 rfl
     refine TK (t := 70) rfl (congrArg Value.bool (decide_eq_false g16)) <| Op1.move (v := .slice _ _ _) rfl <| TK (t := 70) rfl (congrArg Value.bool (decide_eq_false g16)) <| Op1.lenSl (rest := []) ty22 rfl <| TK (t := 70) rfl (congrArg Value.bool (decide_eq_false g16)) <| Op1.neq rfl rfl <| CN <| Op1.pickF (u := .bool _) (congrArg Value.bool (decide_eq_false g16)) rfl <| MB rfl <| RunL.splitD (d := 75) rfl (fun g17 => ?_) (fun g17 => ?_)
     · skip
       exfalso
       exact g17 rfl
     refine TK (t := 75) rfl (congrArg Value.bool (decide_eq_false g17)) <| Op1.move (v := .slice _ _ _) rfl <| TK (t := 75) rfl (congrArg Value.bool (decide_eq_false g17)) <| Op1.indexRs ty22 ty30 ((Res.rs_of_sl (hst.hL _ (.tail _ (.head _))))) rfl rfl (by omega) (by omega) <| TK (t := 75) rfl (congrArg Value.bool (decide_eq_false g17)) <| Op1.loadA (vs := [.int .u8 _, str _, .int .i64 _]) ty30 rfl rfl rfl (Res.rs2_cells (m := 3) ((Res.rs_of_sl (hst.hL _ (.tail _ (.head _))))) _ (flat_seg (g := tokC) (d := tok0) tokC_len _ _ (by omega))) <| TK (t := 75) rfl (congrArg Value.bool (decide_eq_false g17)) <| Op1.move (v := str _) rfl <| TK (t := 75) rfl (congrArg Value.bool (decide_eq_false g17)) (Op1.buildStruct ty30 stf30 (.c (v := .int .u8 _) rfl (h := (.c (v := str _) rfl (h := .nil)))) ?_)
     refine TK (t := 75) rfl (congrArg Value.bool (decide_eq_false g17)) <| Op1.neqA (xs := [.int .u8 _, str _, .int .i64 _]) (ys := [.int .u8 _, str _, .int .i64 _]) rfl rfl (by kernel_rfl) (EqOk.struct Tryd.underlying30 (by kernel_rfl) (.cons (by decide) (PartOk.one ty5 rfl rfl) (PartOk.one ty5 rfl rfl) (EqOk.int ty5) (.cons (by decide) (PartOk.one ty9 rfl rfl) (PartOk.one ty9 rfl rfl) (EqOk.str ty9) (.cons (by decide) (PartOk.one ty3 rfl rfl) (PartOk.one ty3 rfl rfl) (EqOk.int ty3) .nil)))) <| CN <| Op1.pickF (u := .bool _) (congrArg Value.bool (decide_eq_false g17)) rfl <| NL <| Run.forget [(3, str _), (8, .slice _ _ _), (9, .pointer (some ⟨_, _, none⟩)), (82, .bool _)] ⟨rfl, rfl, rfl, rfl, trivial⟩ fun f => run_cond_split rfl (fun g18 => ?_) (fun g18 => ?_)
     · skip
       exfalso
       simp at g18
     refine run_skip <| SR <| CN <| Op1.loadA (vs := [.int .i64 _, .int .i64 _]) ty25 rfl rfl rfl (cells_of_obj (n := 2) (hst.objL (.tail _ (.tail _ (.head _)))) _ rfl) <| MS rfl <| CN <| Op1.lenS (rest := []) ty9 rfl <| CN <| Op1.addN rfl rfl rfl (wrap_i64 (by omega) (by omega)) <| CN (Op1.buildStruct ty25 stf25 (.c (v := .int .i64 _) rfl (h := (.c (v := .int .i64 _) rfl (h := .nil)))) ?_)
     refine CN <| Op1.eqlA (xs := [.int .i64 _, .int .i64 _]) (ys := [.int .i64 _, .int .i64 _]) rfl rfl (by kernel_rfl) (EqOk.struct Tryd.underlying25 (by kernel_rfl) (.cons (by decide) (PartOk.one ty23 rfl rfl) (PartOk.one ty23 rfl rfl) (EqOk.int ty23) (.cons (by decide) (PartOk.one ty3 rfl rfl) (PartOk.one ty3 rfl rfl) (EqOk.int ty3) .nil))) <| MB rfl <| RunL.split (d := 89) rfl (fun g19 => ?_) (fun g19 => ?_)
     · skip
       refine TK (t := 89) rfl (congrArg Value.bool g19) <| Op1.move (v := .slice _ _ _) rfl <| TK (t := 89) rfl (congrArg Value.bool g19) <| Op1.lenSl (rest := []) ty22 rfl <| TK (t := 89) rfl (congrArg Value.bool g19) <| Op1.eql rfl rfl <| CN <| Op1.pickT (u := .bool _) (congrArg Value.bool g19) rfl <| MB rfl <| RunL.splitD (d := 94) rfl (fun g20 => ?_) (fun g20 => ?_)
       · skip
         refine TK (t := 94) rfl (congrArg Value.bool (decide_eq_true g20)) (Op1.call0  ent17 rfl  ((R4lx_awake _ (hst.hD _ (.head _))).mono fun v w hp => ?_))
         obtain ⟨rfl, hp⟩ := hp
         replace hst := hst.keepc hp
         clear hp
         refine CN <| Op1.pickT (u := .bool _) (congrArg Value.bool (decide_eq_true g20)) rfl <| AB rfl <| NL <| run_ret1 Tryd.func11 rfl (TP (v := .bool _) rfl) ?_
         exact ⟨rfl, hst.pure⟩
       exfalso
       exact g20 rfl
     exfalso
     simp at g19
   refine OM (t := 34) rfl (congrArg Value.bool (decide_eq_false g12)) rfl <| OM (t := 34) rfl (congrArg Value.bool (decide_eq_false g12)) rfl <| CN <| Op1.pickF (u := .bool _) (congrArg Value.bool (decide_eq_false g12)) rfl <| NL <| run_cond_false (congrArg Value.bool (rfl : false = _)) <| SR <| MI rfl <| CN <| Op1.neq rfl rfl <| MB rfl <| RunL.splitD (d := 48) rfl (fun g21 => ?_) (fun g21 => ?_)
   · skip
     exfalso
     exact g21 rfl
   refine TK (t := 48) rfl (congrArg Value.bool (decide_eq_false g21)) <| Op1.move (v := .int .u32 _) rfl <| TK (t := 48) rfl (congrArg Value.bool (decide_eq_false g21)) <| Op1.neq rfl rfl <| CN <| Op1.pickF (u := .bool _) (congrArg Value.bool (decide_eq_false g21)) rfl <| NL <| run_cond_dec rfl (fun g22 => ?_) (fun g22 => ?_)
   · skip
     exfalso
     exact g22 rfl
   refine run_skip <| SR <| MS rfl <| CN <| Op1.addS rfl rfl (by first | omega | (simp only [List.length_cons, List.length_nil, List.length_append]; omega) | (simp; omega)) <| CN <| Op1.addS rfl rfl (by first | omega | (simp only [List.length_cons, List.length_nil, List.length_append]; omega) | (simp; omega)) <| MS rfl <| CN <| Op1.addS rfl rfl (by first | omega | (simp only [List.length_cons, List.length_nil, List.length_append]; omega) | (simp; omega)) <| CN (Op1.call1 (v1 := str _) ent15 rfl rfl ((R4lx_TokE ([37] ++ Lib.decDigits n ++ [32, 48] ++ Lib.decDigits n) [] 62 (((Lib.decDigits n).length : Int) + 2) (dec_zero n hn) _ (hst.hD _ (.head _)) (by simp only [List.length_append, List.length_cons, List.length_nil]; omega)).mono fun v w hp => ?_))
   obtain ⟨ao_x1, cp_x1, rfl, hp⟩ := hp
   replace hst := hst.call0 hp
   clear hp
   refine CN <| Op1.move (v := .tuple #[.slice _ _ _, .agg #[.int .i64 _, .int .i64 _]]) rfl <| CN <| Op1.extract (v := .slice _ _ _) rfl rfl <| CN <| Op1.extract (v := .agg #[.int .i64 _, .int .i64 _]) rfl rfl <| CN <| Op1.alloc hst ty25 fun w b9 hst => AL rfl <| CN (SO (v := .agg #[.int .i64 _, .int .i64 _]) hst ty25 rfl rfl (.here) fun w hst => ?_)
   refine NL <| Run.forget [(3, str _), (8, .slice _ _ _), (9, .pointer (some ⟨_, _, none⟩))] ⟨rfl, rfl, rfl, trivial⟩ fun f => SR <| MS rfl <| CN <| Op1.addS rfl rfl (by first | omega | (simp only [List.length_cons, List.length_nil, List.length_append]; omega) | (simp; omega)) <| CN (Op1.call1 (v1 := str _) ent15 rfl rfl ((R4lx_TokE ([37] ++ Lib.decDigits n) [⟨2, Lib.decDigits n, 0⟩] 0 0 (dec_id n hn) _ (hst.hD _ (.head _)) (by simp only [List.length_append, List.length_cons, List.length_nil]; omega)).mono fun v w hp => ?_))
   obtain ⟨ao_x2, cp_x2, rfl, hp⟩ := hp
   replace hst := hst.call0 hp
   clear hp
   refine CN <| Op1.move (v := .tuple #[.slice _ _ _, .agg #[.int .i64 _, .int .i64 _]]) rfl <| CN <| Op1.extract (v := .slice _ _ _) rfl rfl <| CN <| Op1.extract (v := .agg #[.int .i64 _, .int .i64 _]) rfl rfl <| CN <| Op1.alloc hst ty25 fun w b11 hst => AL rfl <| CN (SO (v := .agg #[.int .i64 _, .int .i64 _]) hst ty25 rfl rfl (.here) fun w hst => ?_)
   refine NL <| SQ <| SR <| CN <| Op1.fieldAddr fld25_0 rfl <| CN <| Op1.load1 (v := .int .i64 _) ty23 rfl rfl (hst.cellL (.head _) rfl) <| CN <| Op1.neq rfl rfl <| MB rfl <| RunL.splitD (d := 70) rfl (fun g23 => ?_) (fun g23 => ?_)
   · skip
     exfalso
     exact g23 rfl
   refine TK (t := 70) rfl (congrArg Value.bool (decide_eq_false g23)) <| Op1.move (v := .slice _ _ _) rfl <| TK (t := 70) rfl (congrArg Value.bool (decide_eq_false g23)) <| Op1.lenSl (rest := []) ty22 rfl <| TK (t := 70) rfl (congrArg Value.bool (decide_eq_false g23)) <| Op1.neq rfl rfl <| CN <| Op1.pickF (u := .bool _) (congrArg Value.bool (decide_eq_false g23)) rfl <| MB rfl <| RunL.splitD (d := 75) rfl (fun g24 => ?_) (fun g24 => ?_)
   · skip
     exfalso
     exact g24 rfl
   refine TK (t := 75) rfl (congrArg Value.bool (decide_eq_false g24)) <| Op1.move (v := .slice _ _ _) rfl <| TK (t := 75) rfl (congrArg Value.bool (decide_eq_false g24)) <| Op1.indexRs ty22 ty30 ((Res.rs_of_sl (hst.hL _ (.tail _ (.head _))))) rfl rfl (by omega) (by omega) <| TK (t := 75) rfl (congrArg Value.bool (decide_eq_false g24)) <| Op1.loadA (vs := [.int .u8 _, str _, .int .i64 _]) ty30 rfl rfl rfl (Res.rs2_cells (m := 3) ((Res.rs_of_sl (hst.hL _ (.tail _ (.head _))))) _ (flat_seg (g := tokC) (d := tok0) tokC_len _ _ (by omega))) <| TK (t := 75) rfl (congrArg Value.bool (decide_eq_false g24)) <| Op1.move (v := str _) rfl <| TK (t := 75) rfl (congrArg Value.bool (decide_eq_false g24)) (Op1.buildStruct ty30 stf30 (.c (v := .int .u8 _) rfl (h := (.c (v := str _) rfl (h := .nil)))) ?_)
   refine TK (t := 75) rfl (congrArg Value.bool (decide_eq_false g24)) <| Op1.neqA (xs := [.int .u8 _, str _, .int .i64 _]) (ys := [.int .u8 _, str _, .int .i64 _]) rfl rfl (by kernel_rfl) (EqOk.struct Tryd.underlying30 (by kernel_rfl) (.cons (by decide) (PartOk.one ty5 rfl rfl) (PartOk.one ty5 rfl rfl) (EqOk.int ty5) (.cons (by decide) (PartOk.one ty9 rfl rfl) (PartOk.one ty9 rfl rfl) (EqOk.str ty9) (.cons (by decide) (PartOk.one ty3 rfl rfl) (PartOk.one ty3 rfl rfl) (EqOk.int ty3) .nil)))) <| CN <| Op1.pickF (u := .bool _) (congrArg Value.bool (decide_eq_false g24)) rfl <| NL <| Run.forget [(3, str _), (8, .slice _ _ _), (9, .pointer (some ⟨_, _, none⟩)), (82, .bool _)] ⟨rfl, rfl, rfl, rfl, trivial⟩ fun f => run_cond_split rfl (fun g25 => ?_) (fun g25 => ?_)
   · skip
     exfalso
     simp at g25
   refine run_skip <| SR <| CN <| Op1.loadA (vs := [.int .i64 _, .int .i64 _]) ty25 rfl rfl rfl (cells_of_obj (n := 2) (hst.objL (.tail _ (.tail _ (.head _)))) _ rfl) <| MS rfl <| CN <| Op1.lenS (rest := []) ty9 rfl <| CN <| Op1.addN rfl rfl rfl (wrap_i64 (by omega) (by omega)) <| CN (Op1.buildStruct ty25 stf25 (.c (v := .int .i64 _) rfl (h := (.c (v := .int .i64 _) rfl (h := .nil)))) ?_)
   refine CN <| Op1.eqlA (xs := [.int .i64 _, .int .i64 _]) (ys := [.int .i64 _, .int .i64 _]) rfl rfl (by kernel_rfl) (EqOk.struct Tryd.underlying25 (by kernel_rfl) (.cons (by decide) (PartOk.one ty23 rfl rfl) (PartOk.one ty23 rfl rfl) (EqOk.int ty23) (.cons (by decide) (PartOk.one ty3 rfl rfl) (PartOk.one ty3 rfl rfl) (EqOk.int ty3) .nil))) <| MB rfl <| RunL.split (d := 89) rfl (fun g26 => ?_) (fun g26 => ?_)
   · skip
     refine TK (t := 89) rfl (congrArg Value.bool g26) <| Op1.move (v := .slice _ _ _) rfl <| TK (t := 89) rfl (congrArg Value.bool g26) <| Op1.lenSl (rest := []) ty22 rfl <| TK (t := 89) rfl (congrArg Value.bool g26) <| Op1.eql rfl rfl <| CN <| Op1.pickT (u := .bool _) (congrArg Value.bool g26) rfl <| MB rfl <| RunL.splitD (d := 94) rfl (fun g27 => ?_) (fun g27 => ?_)
     · skip
       refine TK (t := 94) rfl (congrArg Value.bool (decide_eq_true g27)) (Op1.call0  ent17 rfl  ((R4lx_awake _ (hst.hD _ (.head _))).mono fun v w hp => ?_))
       obtain ⟨rfl, hp⟩ := hp
       replace hst := hst.keepc hp
       clear hp
       refine CN <| Op1.pickT (u := .bool _) (congrArg Value.bool (decide_eq_true g27)) rfl <| AB rfl <| NL <| run_ret1 Tryd.func11 rfl (TP (v := .bool _) rfl) ?_
       exact ⟨rfl, hst.pure⟩
     exfalso
     exact g27 rfl
   exfalso
   simp at g26
end Go.SK
