/-
  Steps of functions, plain law, and walks of functions: what the laws rest on.
-/
import Derived.Test.YtalnjboddfedjaaDoorSkG0b
import Derived.Test.YtalnjboddfedjaaDoorSkG1a
set_option linter.unusedVariables false
set_option linter.unusedSimpArgs false
set_option linter.unusedSectionVars false
namespace Go.SK
open Go.RowKit
section
variable {P : Program} {b : Base} {k : List Item} {f : Nat → Value} {w : World} {E : Frame → World → Prop} {ops : Array Oper} {l : List Oper}
theorem yielded_undef {j t : Nat} (hj : (ops[j]?).bind (·.dst) = some t) (hv : ev b.n f (.tmp t) = undef) : yielded ops (tm b.n f) j = none := by
  by_cases ht : t < b.n
  · have hb : Nat.blt t b.n = true := by simpa using ht
    simp only [ev, hb, cond_true] at hv
    simp [yielded, hj, tm_get?, ht, hv, undef]
  · simp [yielded, hj, tm_get?, ht]
theorem RunL.omitU {d : Option Tmp} {op : Op} {ty : TypeId} {pos : String} {aft : Array Edge} {j t : Nat} {c : Bool} (hj : (ops[j]?).bind (·.dst) = some t) (hv : ev b.n f (.tmp t) = undef)
    (h : RunL P b ops l k (putF f d undef) w E) : RunL P b ops (⟨d, op, ty, pos, aft, some (j, c)⟩ :: l) k f w E := by
  intro idxs hi
  cases idxs with
  | nil => simp at hi
  | cons i rest =>
    simp only [List.map_cons, List.cons.injEq] at hi
    obtain ⟨ho, hrest⟩ := hi
    have hs := fun cs => op_skip (P := P) (k := k) (w := w) (b := b) (f := f) (ops := ops) (i := i) (rest := rest) (by
      simp [ho, Region.wanted, yielded_undef hj hv]) cs
    refine Run.step1 hs ?_
    rw [ho]
    exact h rest hrest
end
end Go.SK
namespace Go.SK
open Go.RowKit
variable {P : Program} {b : Base} {k : List Item} {E : Frame → World → Prop} {ops : Array Oper} {f : Nat → Value} {w0 w : World} {M : Nat → Prop} {L D : List Res} {φ : Nat → Word} {pd : Pend} {tk : Takes}
section
variable {bs : List Nat} {ds : List (Option Nat)} {i : Nat} {l : List Oper} {ws : Nat → Word} {n : Nat} {f' : Nat → Value} {L' : List Res} {w' : World}
theorem RunD.omitU {d : Option Tmp} {op : Op} {ty : TypeId} {pos : String} {aft : Array Edge} {j t : Nat} {c : Bool} (htab : DrawTab ops bs ds) (i' : Nat)
    (hj : ds.getD j none = some t) (hg : ∀ f' L' w', Know1 tk bs ds f w0 M L D i ws f' L' w' → ev b.n f' (.tmp t) = undef)
    (h : RunD tk pd P b ops bs ds k E f w0 M L D w i' l (updW ws i (cw (SK.det undef)))) (hi : i + 1 = i' := by rfl) (hp : (pd.all fun p => !(Nat.beq p.1 i)) = true := by rfl) (hk : tkNo tk i = true := by rfl) : RunD tk pd P b ops bs ds k E f w0 M L D w i (⟨d, op, ty, pos, aft, some (j, c)⟩ :: l) ws := by
  subst hi
  refine RunD.cons (cw (SK.det undef)) (fun ho φ hφ hi2 o ho' f' L' L'' w' hc => ?_) h
  rw [ho] at ho'
  obtain rfl := Option.some.inj ho'
  have hl := know1_of htab hφ ho hc
  refine .inr ⟨?_, ?_, hc.turn.same (plain_of hp) (tkNo_spec hk)⟩
  · have := yielded_undef (ops := ops) (tab_dst htab hj) (hg f' L' w' hl)
    simp only [Region.wanted, this]
    cases c <;> rfl
  · rw [hi2]; exact ⟨rfl, rfl⟩
end
end Go.SK
namespace Go.SK
theorem digs_step {s : Tx} {i n : Nat} (h : i < s.length) (hd : digB (s.getD i 0) = true) : digsF (s.drop i) n = digsF (s.drop (i + 1)) (10 * n + ((s.getD i 0).toNat - 48)) := by
  rw [dropC h, digsF, if_pos hd]
theorem digs_stop {s : Tx} {i n : Nat} (h : i < s.length) (hd : ¬ digB (s.getD i 0) = true) : digsF (s.drop i) n = none := by
  rw [dropC h, digsF, if_neg hd]
theorem digs_end {s : Tx} {i n : Nat} (h : s.length ≤ i) : digsF (s.drop i) n = some n := by
  rw [List.drop_eq_nil_of_le h]; rfl
theorem pow10_le {i : Nat} (h : i ≤ 9) : 10 ^ i ≤ 1000000000 := by
  have : 10 ^ i ≤ 10 ^ 9 := Nat.pow_le_pow_right (by omega) h
  omega
theorem pow10_step {i n d : Nat} (h : n < 10 ^ i) (hd : d ≤ 9) : 10 * n + d < 10 ^ (i + 1) := by rw [Nat.pow_succ]; omega
end Go.SK
namespace Go.SK
open Go Go.Proofs
theorem ent50 : Enters Tryd.prog 50 := ⟨Tryd.f50, _, Tryd.func50, by kernel_rfl, rfl⟩
end Go.SK
namespace Go.SK
open Go Go.Proofs
open Go.RowKit
theorem R4lx_Digit (c : UInt8) (w : World) : Ret Tryd.prog 50 #[.int .u8 (c.toNat : Int)] w (fun v w' => v = .bool (digB c) ∧ St w NoM [] [] w') := by
 refine Ret.enter (args := [.int .u8 (c.toNat : Int)]) Tryd.func50 rfl rfl rfl ?_
 have hst := St.init w
 refine SR <| AB rfl <| NSR <| MC rfl <| CN <| Op1.geq rfl rfl <| MB rfl <| RunL.splitD (d := 5) rfl (fun g1 => ?_) (fun g1 => ?_)
 · skip
   refine TK (t := 5) rfl (congrArg Value.bool (decide_eq_true g1)) <| Op1.move (v := .int .u8 _) rfl <| TK (t := 5) rfl (congrArg Value.bool (decide_eq_true g1)) <| Op1.leq rfl rfl <| CN <| Op1.pickT (u := .bool _) (congrArg Value.bool (decide_eq_true g1)) rfl <| AB rfl <| NL <| run_ret1 Tryd.func50 rfl (TP (v := .bool _) rfl) <| ⟨congrArg Value.bool ?_, hst.pure⟩
   unfold digB
   first | (rw [decide_eq_decide]; omega) | exact (decide_eq_false (by omega)).symm | exact (decide_eq_true (by omega)).symm
 refine OM (t := 5) rfl (congrArg Value.bool (decide_eq_false g1)) rfl <| OM (t := 5) rfl (congrArg Value.bool (decide_eq_false g1)) rfl <| CN <| Op1.pickF (u := .bool _) (congrArg Value.bool (decide_eq_false g1)) rfl <| AB rfl <| NL <| run_ret1 Tryd.func50 rfl (TP (v := .bool _) rfl) <| ⟨congrArg Value.bool ?_, hst.pure⟩
 unfold digB
 first | (rw [decide_eq_decide]; omega) | exact (decide_eq_false (by omega)).symm | exact (decide_eq_true (by omega)).symm
theorem R4lx_Hex (c : UInt8) (w : World) : Ret Tryd.prog 35 #[.int .u8 (c.toNat : Int)] w (fun v w' => v = .bool (hexB c) ∧ St w NoM [] [] w') := by
 refine Ret.enter (args := [.int .u8 (c.toNat : Int)]) Tryd.func35 rfl rfl rfl ?_
 have hst := St.init w
 refine SR <| AB rfl <| NSR <| MC rfl <| CN <| Op1.call1 (v1 := .int .u8 _) ent50 rfl rfl <| Ret.det (R4lx_Digit _ _) hst fun w hst => MB rfl <| RunL.split (d := 5) rfl (fun g1 => ?_) (fun g1 => ?_)
 · skip
   have hdb := dig_bd g1
   refine OM (t := 5) rfl (congrArg Value.bool g1) rfl <| OM (t := 5) rfl (congrArg Value.bool g1) rfl <| OM (t := 5) rfl (congrArg Value.bool g1) rfl <| RunL.omitU (t := 8) rfl rfl <| RunL.omitU (t := 8) rfl rfl <| OM (t := 5) rfl (congrArg Value.bool g1) rfl <| CN <| Op1.pickT (u := .bool _) (congrArg Value.bool g1) rfl <| MB rfl <| OM (t := 13) rfl (congrArg Value.bool (rfl : true = _)) rfl <| OM (t := 13) rfl (congrArg Value.bool (rfl : true = _)) rfl <| OM (t := 13) rfl (congrArg Value.bool (rfl : true = _)) rfl <| RunL.omitU (t := 16) rfl rfl <| RunL.omitU (t := 16) rfl rfl <| OM (t := 13) rfl (congrArg Value.bool (rfl : true = _)) rfl <| CN (Op1.pickT (u := .bool _) (congrArg Value.bool (rfl : true = _)) rfl ?_)
   refine AB rfl <| NL <| run_ret1 Tryd.func35 rfl (TP (v := .bool _) rfl) <| ⟨congrArg Value.bool ?_, hst.pure⟩
   unfold hexB
   first | (rw [decide_eq_decide]; omega) | exact (decide_eq_false (by omega)).symm | exact (decide_eq_true (by omega)).symm
 have hdb : ¬ (48 ≤ c.toNat ∧ c.toNat ≤ 57) := of_decide_eq_false (p := 48 ≤ c.toNat ∧ c.toNat ≤ 57) g1
 refine TK (t := 5) rfl (congrArg Value.bool g1) <| Op1.move (v := .int .u8 _) rfl <| TK (t := 5) rfl (congrArg Value.bool g1) <| Op1.geq rfl rfl <| TK (t := 5) rfl (congrArg Value.bool g1) <| Op1.move (v := .bool _) rfl <| RunL.splitD (d := 8) rfl (fun g2 => ?_) (fun g2 => ?_)
 · skip
   refine TK (t := 8) rfl (congrArg Value.bool (decide_eq_true g2)) <| Op1.move (v := .int .u8 _) rfl <| TK (t := 8) rfl (congrArg Value.bool (decide_eq_true g2)) <| Op1.leq rfl rfl <| TK (t := 5) rfl (congrArg Value.bool g1) <| Op1.pickT (u := .bool _) (congrArg Value.bool (decide_eq_true g2)) rfl <| CN <| Op1.pickF (u := .bool _) (congrArg Value.bool g1) rfl <| MB rfl <| RunL.splitD (d := 13) rfl (fun g3 => ?_) (fun g3 => ?_)
   · skip
     refine OM (t := 13) rfl (congrArg Value.bool (decide_eq_true g3)) rfl <| OM (t := 13) rfl (congrArg Value.bool (decide_eq_true g3)) rfl <| OM (t := 13) rfl (congrArg Value.bool (decide_eq_true g3)) rfl <| RunL.omitU (t := 16) rfl rfl <| RunL.omitU (t := 16) rfl rfl <| OM (t := 13) rfl (congrArg Value.bool (decide_eq_true g3)) rfl <| CN <| Op1.pickT (u := .bool _) (congrArg Value.bool (decide_eq_true g3)) rfl <| AB rfl <| NL <| run_ret1 Tryd.func35 rfl (TP (v := .bool _) rfl) <| ⟨congrArg Value.bool ?_, hst.pure⟩
     unfold hexB
     first | (rw [decide_eq_decide]; omega) | exact (decide_eq_false (by omega)).symm | exact (decide_eq_true (by omega)).symm
   refine TK (t := 13) rfl (congrArg Value.bool (decide_eq_false g3)) <| Op1.move (v := .int .u8 _) rfl <| TK (t := 13) rfl (congrArg Value.bool (decide_eq_false g3)) <| Op1.geq rfl rfl <| TK (t := 13) rfl (congrArg Value.bool (decide_eq_false g3)) <| Op1.move (v := .bool _) rfl <| RunL.splitD (d := 16) rfl (fun g4 => ?_) (fun g4 => ?_)
   · skip
     refine TK (t := 16) rfl (congrArg Value.bool (decide_eq_true g4)) <| Op1.move (v := .int .u8 _) rfl <| TK (t := 16) rfl (congrArg Value.bool (decide_eq_true g4)) <| Op1.leq rfl rfl <| TK (t := 13) rfl (congrArg Value.bool (decide_eq_false g3)) <| Op1.pickT (u := .bool _) (congrArg Value.bool (decide_eq_true g4)) rfl <| CN <| Op1.pickF (u := .bool _) (congrArg Value.bool (decide_eq_false g3)) rfl <| AB rfl <| NL <| run_ret1 Tryd.func35 rfl (TP (v := .bool _) rfl) <| ⟨congrArg Value.bool ?_, hst.pure⟩
     unfold hexB
     first | (rw [decide_eq_decide]; omega) | exact (decide_eq_false (by omega)).symm | exact (decide_eq_true (by omega)).symm
   refine OM (t := 16) rfl (congrArg Value.bool (decide_eq_false g4)) rfl <| OM (t := 16) rfl (congrArg Value.bool (decide_eq_false g4)) rfl <| TK (t := 13) rfl (congrArg Value.bool (decide_eq_false g3)) <| Op1.pickF (u := .bool _) (congrArg Value.bool (decide_eq_false g4)) rfl <| CN <| Op1.pickF (u := .bool _) (congrArg Value.bool (decide_eq_false g3)) rfl <| AB rfl <| NL <| run_ret1 Tryd.func35 rfl (TP (v := .bool _) rfl) <| ⟨congrArg Value.bool ?_, hst.pure⟩
   unfold hexB
   first | (rw [decide_eq_decide]; omega) | exact (decide_eq_false (by omega)).symm | exact (decide_eq_true (by omega)).symm
 refine OM (t := 8) rfl (congrArg Value.bool (decide_eq_false g2)) rfl <| OM (t := 8) rfl (congrArg Value.bool (decide_eq_false g2)) rfl <| TK (t := 5) rfl (congrArg Value.bool g1) <| Op1.pickF (u := .bool _) (congrArg Value.bool (decide_eq_false g2)) rfl <| CN <| Op1.pickF (u := .bool _) (congrArg Value.bool g1) rfl <| MB rfl <| TK (t := 13) rfl (congrArg Value.bool (rfl : false = _)) <| Op1.move (v := .int .u8 _) rfl <| TK (t := 13) rfl (congrArg Value.bool (rfl : false = _)) <| Op1.geq rfl rfl <| TK (t := 13) rfl (congrArg Value.bool (rfl : false = _)) <| Op1.move (v := .bool _) rfl <| RunL.splitD (d := 16) rfl (fun g5 => ?_) (fun g5 => ?_)
 · skip
   refine TK (t := 16) rfl (congrArg Value.bool (decide_eq_true g5)) <| Op1.move (v := .int .u8 _) rfl <| TK (t := 16) rfl (congrArg Value.bool (decide_eq_true g5)) <| Op1.leq rfl rfl <| TK (t := 13) rfl (congrArg Value.bool (rfl : false = _)) <| Op1.pickT (u := .bool _) (congrArg Value.bool (decide_eq_true g5)) rfl <| CN <| Op1.pickF (u := .bool _) (congrArg Value.bool (rfl : false = _)) rfl <| AB rfl <| NL <| run_ret1 Tryd.func35 rfl (TP (v := .bool _) rfl) <| ⟨congrArg Value.bool ?_, hst.pure⟩
   unfold hexB
   first | (rw [decide_eq_decide]; omega) | exact (decide_eq_false (by omega)).symm | exact (decide_eq_true (by omega)).symm
 refine OM (t := 16) rfl (congrArg Value.bool (decide_eq_false g5)) rfl <| OM (t := 16) rfl (congrArg Value.bool (decide_eq_false g5)) rfl <| TK (t := 13) rfl (congrArg Value.bool (rfl : false = _)) <| Op1.pickF (u := .bool _) (congrArg Value.bool (decide_eq_false g5)) rfl <| CN <| Op1.pickF (u := .bool _) (congrArg Value.bool (rfl : false = _)) rfl <| AB rfl <| NL <| run_ret1 Tryd.func35 rfl (TP (v := .bool _) rfl) <| ⟨congrArg Value.bool ?_, hst.pure⟩
 unfold hexB
 first | (rw [decide_eq_decide]; omega) | exact (decide_eq_false (by omega)).symm | exact (decide_eq_true (by omega)).symm
theorem R4lx_Worth (c : UInt8) (hh : hexB c = true) (w : World) : Ret Tryd.prog 36 #[.int .u8 (c.toNat : Int)] w (fun v w' => v = .int .u64 (worF c : Int) ∧ St w NoM [] [] w') := by
 refine Ret.enter (args := [.int .u8 (c.toNat : Int)]) Tryd.func36 rfl rfl rfl ?_
 have hst := St.init w
 have hhb := (hex_bd hh).1
 refine SR <| CN <| Op1.assign (v := .int .u64 _) rfl <| NL <| SQ <| SR <| MC rfl <| CN <| Op1.call1 (v1 := .int .u8 _) ent50 rfl rfl <| Ret.det (R4lx_Digit _ _) hst fun w hst => NL <| run_cond_split rfl (fun g1 => ?_) (fun g1 => ?_)
 · skip
   have hdb := dig_bd g1
   refine SR <| MC rfl <| CN (Op1.subN rfl rfl rfl (wrap_u8 (by omega) (by omega)) ?_)
   first | refine CN (Op1.convN ty5 ty57 rfl (wrap_u64 (by omega) (by omega)) ?_) | refine CN (Op1.conv ty5 ty57 rfl ?_)
   refine CN <| Op1.assign (v := .int .u64 _) rfl <| NL <| run_ret1 Tryd.func36 rfl (TP (v := .int .u64 _) rfl) <| ⟨congrArg (Value.int .u64) ?_, hst.pure⟩
   unfold worF
   split
   · omega
   · split <;> omega
 have hdb : ¬ (48 ≤ c.toNat ∧ c.toNat ≤ 57) := of_decide_eq_false (p := 48 ≤ c.toNat ∧ c.toNat ≤ 57) g1
 refine run_skip <| SQ <| SR <| MC rfl <| CN <| Op1.geq rfl rfl <| NL <| run_cond_dec rfl (fun g2 => ?_) (fun g2 => ?_)
 · skip
   refine SR <| MC rfl <| CN (Op1.subN rfl rfl rfl (wrap_u8 (by omega) (by omega)) ?_)
   first | refine CN (Op1.convN ty5 ty57 rfl (wrap_u64 (by omega) (by omega)) ?_) | refine CN (Op1.conv ty5 ty57 rfl ?_)
   refine CN <| Op1.addN rfl rfl rfl (wrap_u64 (by omega) (by omega)) <| CN <| Op1.assign (v := .int .u64 _) rfl <| NL <| run_ret1 Tryd.func36 rfl (TP (v := .int .u64 _) rfl) <| ⟨congrArg (Value.int .u64) ?_, hst.pure⟩
   unfold worF
   split
   · omega
   · split <;> omega
 refine run_skip <| SR <| MC rfl <| CN (Op1.subN rfl rfl rfl (wrap_u8 (by omega) (by omega)) ?_)
 first | refine CN (Op1.convN ty5 ty57 rfl (wrap_u64 (by omega) (by omega)) ?_) | refine CN (Op1.conv ty5 ty57 rfl ?_)
 refine CN <| Op1.addN rfl rfl rfl (wrap_u64 (by omega) (by omega)) <| CN <| Op1.assign (v := .int .u64 _) rfl <| NL <| run_ret1 Tryd.func36 rfl (TP (v := .int .u64 _) rfl) <| ⟨congrArg (Value.int .u64) ?_, hst.pure⟩
 unfold worF
 split
 · omega
 · split <;> omega
end Go.SK
namespace Go.SK
open Go Go.Proofs
open Go.RowKit
theorem R4lx_Plain (s : Tx) (w : World) (hl : s.length ≤ 140737488355328) : Ret Tryd.prog 34 #[str s] w (fun v w' => v = .tuple #[.int .u64 (plR s : Int), .bool (plainF s).isSome] ∧ St w NoM [] [] w') := by
 refine Ret.enter (args := [str s]) Tryd.func34 rfl rfl rfl ?_
 have hst := St.init w
 have hidx0 : (s.getD ((0 : Int).toNat) 0).toNat = (s.getD 0 0).toNat := rfl
 refine SR <| CN <| Op1.assign (v := .int .u64 _) rfl <| AB rfl <| NL <| SQ <| SR <| MS rfl <| CN <| Op1.lenS (rest := []) ty9 rfl <| CN <| Op1.eql rfl rfl <| MB rfl <| RunL.splitD (d := 9) rfl (fun g1 => ?_) (fun g1 => ?_)
 · skip
   refine OM (t := 9) rfl (congrArg Value.bool (decide_eq_true g1)) rfl <| OM (t := 9) rfl (congrArg Value.bool (decide_eq_true g1)) rfl <| OM (t := 9) rfl (congrArg Value.bool (decide_eq_true g1)) rfl <| CN <| Op1.pickT (u := .bool _) (congrArg Value.bool (decide_eq_true g1)) rfl <| MB rfl <| OM (t := 14) rfl (congrArg Value.bool (rfl : true = _)) rfl <| OM (t := 14) rfl (congrArg Value.bool (rfl : true = _)) rfl <| OM (t := 14) rfl (congrArg Value.bool (rfl : true = _)) rfl <| OM (t := 14) rfl (congrArg Value.bool (rfl : true = _)) rfl <| RunL.omitU (t := 18) rfl rfl <| RunL.omitU (t := 18) rfl rfl <| RunL.omitU (t := 18) rfl rfl <| OM (t := 14) rfl (congrArg Value.bool (rfl : true = _)) rfl <| CN <| Op1.pickT (u := .bool _) (congrArg Value.bool (rfl : true = _)) rfl <| NL ?_
   have hbad : badP s := by unfold badP; omega
   refine run_cond_true (congrArg Value.bool (rfl : true = _)) <| SR <| CN <| Op1.assign (v := .int .u64 _) rfl <| AB rfl <| NL <| run_ret2 Tryd.func34 rfl (TP (v := .int .u64 _) rfl) (TP (v := .bool _) rfl) ?_
   rw [(plR_bad hbad).1, (plR_bad hbad).2]
   exact ⟨rfl, hst.pure⟩
 refine TK (t := 9) rfl (congrArg Value.bool (decide_eq_false g1)) <| Op1.move (v := str _) rfl <| TK (t := 9) rfl (congrArg Value.bool (decide_eq_false g1)) <| Op1.lenS (rest := []) ty9 rfl <| TK (t := 9) rfl (congrArg Value.bool (decide_eq_false g1)) <| Op1.gtr rfl rfl <| CN <| Op1.pickF (u := .bool _) (congrArg Value.bool (decide_eq_false g1)) rfl <| MB rfl <| RunL.splitD (d := 14) rfl (fun g2 => ?_) (fun g2 => ?_)
 · skip
   refine OM (t := 14) rfl (congrArg Value.bool (decide_eq_true g2)) rfl <| OM (t := 14) rfl (congrArg Value.bool (decide_eq_true g2)) rfl <| OM (t := 14) rfl (congrArg Value.bool (decide_eq_true g2)) rfl <| OM (t := 14) rfl (congrArg Value.bool (decide_eq_true g2)) rfl <| RunL.omitU (t := 18) rfl rfl <| RunL.omitU (t := 18) rfl rfl <| RunL.omitU (t := 18) rfl rfl <| OM (t := 14) rfl (congrArg Value.bool (decide_eq_true g2)) rfl <| CN <| Op1.pickT (u := .bool _) (congrArg Value.bool (decide_eq_true g2)) rfl <| NL ?_
   have hbad : badP s := by unfold badP; omega
   refine run_cond_true (congrArg Value.bool (rfl : true = _)) <| SR <| CN <| Op1.assign (v := .int .u64 _) rfl <| AB rfl <| NL <| run_ret2 Tryd.func34 rfl (TP (v := .int .u64 _) rfl) (TP (v := .bool _) rfl) ?_
   rw [(plR_bad hbad).1, (plR_bad hbad).2]
   exact ⟨rfl, hst.pure⟩
 refine TK (t := 14) rfl (congrArg Value.bool (decide_eq_false g2)) <| Op1.move (v := str _) rfl <| TK (t := 14) rfl (congrArg Value.bool (decide_eq_false g2)) <| Op1.lenS (rest := []) ty9 rfl <| TK (t := 14) rfl (congrArg Value.bool (decide_eq_false g2)) <| Op1.gtr rfl rfl <| TK (t := 14) rfl (congrArg Value.bool (decide_eq_false g2)) <| Op1.move (v := .bool _) rfl <| RunL.splitD (d := 18) rfl (fun g3 => ?_) (fun g3 => ?_)
 · skip
   refine TK (t := 18) rfl (congrArg Value.bool (decide_eq_true g3)) <| Op1.move (v := str _) rfl <| TK (t := 18) rfl (congrArg Value.bool (decide_eq_true g3)) <| Op1.indexS ty9 rfl rfl (by omega) (by omega) <| TK (t := 18) rfl (congrArg Value.bool (decide_eq_true g3)) <| Op1.eql rfl rfl <| TK (t := 14) rfl (congrArg Value.bool (decide_eq_false g2)) <| Op1.pickT (u := .bool _) (congrArg Value.bool (decide_eq_true g3)) rfl <| CN <| Op1.pickF (u := .bool _) (congrArg Value.bool (decide_eq_false g2)) rfl <| NL <| Run.forget [(0, str _), (23, .bool _)] ⟨rfl, rfl, trivial⟩ fun f => run_cond_dec rfl (fun g4 => ?_) (fun g4 => ?_)
   · skip
     have hbad : badP s := by unfold badP; omega
     refine SR <| CN <| Op1.assign (v := .int .u64 _) rfl <| AB rfl <| NL <| run_ret2 Tryd.func34 rfl (TP (v := .int .u64 _) rfl) (TP (v := .bool _) rfl) ?_
     rw [(plR_bad hbad).1, (plR_bad hbad).2]
     exact ⟨rfl, hst.pure⟩
   have hgood : ¬ badP s := by unfold badP; omega
   refine run_skip <| SR <| CN <| Op1.assign (v := .int .u64 _) rfl <| NL <| SQ <| SR <| AI rfl <| NL <| run_block <| run_loop <| Run.indW [(0, str _)] ⟨rfl, trivial⟩ (fun (qq : Nat × Nat) => [(4, .int .u64 (qq.2 : Int)), (5, .int .i64 (qq.1 : Int))]) (fun (qq : Nat × Nat) => []) (fun (qq : Nat × Nat) => qq.1 ≤ s.length ∧ qq.2 < 10 ^ qq.1 ∧ digsF s 0 = digsF (s.drop qq.1) qq.2) (fun (qq : Nat × Nat) => s.length - qq.1) ((0, 0)) hst ⟨Nat.zero_le _, by decide, rfl⟩ ⟨rfl, rfl, trivial⟩ ?_
   intro ⟨i, n⟩ f w hst hJ ih5
   replace hst : St _ _ ([] ++ []) _ _ := hst
   replace hJ : i ≤ s.length ∧ n < 10 ^ i ∧ digsF s 0 = digsF (s.drop i) n := hJ
   refine Run.slots (sl := [(4, .int .u64 (n : Int)), (5, .int .i64 (i : Int))]) ⟨rfl, rfl, trivial⟩ ?_
   have hidx : (s.getD ((i : Int).toNat) 0).toNat = (s.getD i 0).toNat := rfl
   have hlen : s.length ≤ 10 := by unfold badP at hgood; omega
   refine SQ <| SR <| MI rfl <| MS rfl <| CN <| Op1.lenS (rest := []) ty9 rfl <| CN <| Op1.lss rfl rfl <| NL <| run_cond_dec rfl (fun g6 => ?_) (fun g6 => ?_)
   · skip
     have hp10 := pow10_le (i := i) (by omega)
     refine run_skip <| SQ <| run_block <| SQ <| SR <| MS rfl <| MI rfl <| CN <| Op1.indexS ty9 rfl rfl (by omega) (by omega) <| CN <| Op1.call1 (v1 := .int .u8 _) ent50 rfl rfl <| Ret.det (R4lx_Digit _ _) hst fun w hst => CN <| Op1.not rfl <| NL <| run_cond_split rfl (fun g7 => ?_) (fun g7 => ?_)
     · skip
       have hnd : ¬ digB (s.getD i 0) = true := not_t g7
       refine SR <| CN <| Op1.assign (v := .int .u64 _) rfl <| AB rfl <| NL <| run_ret2 Tryd.func34 rfl (TP (v := .int .u64 _) rfl) (TP (v := .bool _) rfl) ?_
       have hno : digsF s 0 = none := hJ.2.2.trans (digs_stop (by omega) hnd)
       rw [(plR_none hgood hno).1, (plR_none hgood hno).2]
       exact ⟨rfl, hst.pure⟩
     have hyd : digB (s.getD i 0) = true := not_f g7
     have hdb := dig_bd hyd
     refine run_skip <| RG <| CN <| Op1.move (v := .int .u64 _) rfl <| CN <| Op1.mulN rfl rfl rfl (wrap_u64 (by omega) (by omega)) <| MS rfl <| MI rfl <| CN <| Op1.indexS ty9 rfl rfl (by omega) (by omega) <| CN (Op1.subN rfl rfl rfl (wrap_u8 (by omega) (by omega)) ?_)
     first | refine CN (Op1.convN ty5 ty57 rfl (wrap_u64 (by omega) (by omega)) ?_) | refine CN (Op1.conv ty5 ty57 rfl ?_)
     refine CN <| Op1.addN rfl rfl rfl (wrap_u64 (by omega) (by omega)) <| CN <| Op1.assign (v := .int .u64 _) rfl <| NL <| run_inBlock <| RG <| MI rfl <| CN <| Op1.addN rfl rfl rfl (wrap_i64 (by omega) (by omega)) <| AI rfl <| NL <| run_inLoop ?_
     exact ih5 ((i + 1, 10 * n + ((s.getD i 0).toNat - 48))) _ w (by (try dsimp only); omega) hst (⟨by (try dsimp only); omega, by (try dsimp only); exact pow10_step hJ.2.1 (by omega), by (try dsimp only); rw [hJ.2.2, digs_step (by omega) hyd]⟩) ⟨rfl, trivial⟩ ⟨(congrArg (Value.int .u64) (by (try dsimp only); omega)), (congrArg (Value.int .i64) (by (try dsimp only); omega)), trivial⟩
   refine run_exit (id := 0) rfl <| SR <| CN <| Op1.move (v := .int .u64 _) rfl <| CN <| Op1.move (v := .int .u64 _) rfl <| CN <| Op1.lss rfl rfl <| CN <| Op1.assign (v := .int .u64 _) rfl <| AB rfl <| NL <| run_ret2 Tryd.func34 rfl (TP (v := .int .u64 _) rfl) (TP (v := .bool _) rfl) ?_
   have hsm : digsF s 0 = some n := hJ.2.2.trans (digs_end (by omega))
   rw [(plR_some hgood hsm).1, (plR_some hgood hsm).2]
   refine ⟨congrArg (fun b => Value.tuple #[.int .u64 (n : Int), .bool b]) ?_, hst.pure⟩
   rw [decide_eq_decide]; omega
 refine OM (t := 18) rfl (congrArg Value.bool (decide_eq_false g3)) rfl <| OM (t := 18) rfl (congrArg Value.bool (decide_eq_false g3)) rfl <| OM (t := 18) rfl (congrArg Value.bool (decide_eq_false g3)) rfl <| TK (t := 14) rfl (congrArg Value.bool (decide_eq_false g2)) <| Op1.pickF (u := .bool _) (congrArg Value.bool (decide_eq_false g3)) rfl <| CN <| Op1.pickF (u := .bool _) (congrArg Value.bool (decide_eq_false g2)) rfl <| NL ?_
 have hgood : ¬ badP s := by unfold badP; omega
 refine run_cond_false (congrArg Value.bool (rfl : false = _)) <| run_skip <| SR <| CN <| Op1.assign (v := .int .u64 _) rfl <| NL <| SQ <| SR <| AI rfl <| NL <| run_block <| Run.forget [(0, str _), (4, .int .u64 _), (5, .int .i64 _)] ⟨rfl, rfl, rfl, trivial⟩ fun f => run_loop <| Run.indW [(0, str _)] ⟨rfl, trivial⟩ (fun (qq : Nat × Nat) => [(4, .int .u64 (qq.2 : Int)), (5, .int .i64 (qq.1 : Int))]) (fun (qq : Nat × Nat) => []) (fun (qq : Nat × Nat) => qq.1 ≤ s.length ∧ qq.2 < 10 ^ qq.1 ∧ digsF s 0 = digsF (s.drop qq.1) qq.2) (fun (qq : Nat × Nat) => s.length - qq.1) ((0, 0)) hst ⟨Nat.zero_le _, by decide, rfl⟩ ⟨rfl, rfl, trivial⟩ ?_
 intro ⟨i, n⟩ f w hst hJ ih8
 replace hst : St _ _ ([] ++ []) _ _ := hst
 replace hJ : i ≤ s.length ∧ n < 10 ^ i ∧ digsF s 0 = digsF (s.drop i) n := hJ
 refine Run.slots (sl := [(4, .int .u64 (n : Int)), (5, .int .i64 (i : Int))]) ⟨rfl, rfl, trivial⟩ ?_
 have hidx : (s.getD ((i : Int).toNat) 0).toNat = (s.getD i 0).toNat := rfl
 have hlen : s.length ≤ 10 := by unfold badP at hgood; omega
 refine SQ <| SR <| MI rfl <| MS rfl <| CN <| Op1.lenS (rest := []) ty9 rfl <| CN <| Op1.lss rfl rfl <| NL <| run_cond_dec rfl (fun g9 => ?_) (fun g9 => ?_)
 · skip
   have hp10 := pow10_le (i := i) (by omega)
   refine run_skip <| SQ <| run_block <| SQ <| SR <| MS rfl <| MI rfl <| CN <| Op1.indexS ty9 rfl rfl (by omega) (by omega) <| CN <| Op1.call1 (v1 := .int .u8 _) ent50 rfl rfl <| Ret.det (R4lx_Digit _ _) hst fun w hst => CN <| Op1.not rfl <| NL <| run_cond_split rfl (fun g10 => ?_) (fun g10 => ?_)
   · skip
     have hnd : ¬ digB (s.getD i 0) = true := not_t g10
     refine SR <| CN <| Op1.assign (v := .int .u64 _) rfl <| AB rfl <| NL <| run_ret2 Tryd.func34 rfl (TP (v := .int .u64 _) rfl) (TP (v := .bool _) rfl) ?_
     have hno : digsF s 0 = none := hJ.2.2.trans (digs_stop (by omega) hnd)
     rw [(plR_none hgood hno).1, (plR_none hgood hno).2]
     exact ⟨rfl, hst.pure⟩
   have hyd : digB (s.getD i 0) = true := not_f g10
   have hdb := dig_bd hyd
   refine run_skip <| RG <| CN <| Op1.move (v := .int .u64 _) rfl <| CN <| Op1.mulN rfl rfl rfl (wrap_u64 (by omega) (by omega)) <| MS rfl <| MI rfl <| CN <| Op1.indexS ty9 rfl rfl (by omega) (by omega) <| CN (Op1.subN rfl rfl rfl (wrap_u8 (by omega) (by omega)) ?_)
   first | refine CN (Op1.convN ty5 ty57 rfl (wrap_u64 (by omega) (by omega)) ?_) | refine CN (Op1.conv ty5 ty57 rfl ?_)
   refine CN <| Op1.addN rfl rfl rfl (wrap_u64 (by omega) (by omega)) <| CN <| Op1.assign (v := .int .u64 _) rfl <| NL <| run_inBlock <| RG <| MI rfl <| CN <| Op1.addN rfl rfl rfl (wrap_i64 (by omega) (by omega)) <| AI rfl <| NL <| run_inLoop ?_
   exact ih8 ((i + 1, 10 * n + ((s.getD i 0).toNat - 48))) _ w (by (try dsimp only); omega) hst (⟨by (try dsimp only); omega, by (try dsimp only); exact pow10_step hJ.2.1 (by omega), by (try dsimp only); rw [hJ.2.2, digs_step (by omega) hyd]⟩) ⟨rfl, trivial⟩ ⟨(congrArg (Value.int .u64) (by (try dsimp only); omega)), (congrArg (Value.int .i64) (by (try dsimp only); omega)), trivial⟩
 refine run_exit (id := 0) rfl <| SR <| CN <| Op1.move (v := .int .u64 _) rfl <| CN <| Op1.move (v := .int .u64 _) rfl <| CN <| Op1.lss rfl rfl <| CN <| Op1.assign (v := .int .u64 _) rfl <| AB rfl <| NL <| run_ret2 Tryd.func34 rfl (TP (v := .int .u64 _) rfl) (TP (v := .bool _) rfl) ?_
 have hsm : digsF s 0 = some n := hJ.2.2.trans (digs_end (by omega))
 rw [(plR_some hgood hsm).1, (plR_some hgood hsm).2]
 refine ⟨congrArg (fun b => Value.tuple #[.int .u64 (n : Int), .bool b]) ?_, hst.pure⟩
 rw [decide_eq_decide]; omega
end Go.SK
namespace Go.SK
open Go Go.Proofs
theorem ent34 : Enters Tryd.prog 34 := ⟨Tryd.f34, _, Tryd.func34, by kernel_rfl, rfl⟩
theorem ent35 : Enters Tryd.prog 35 := ⟨Tryd.f35, _, Tryd.func35, by kernel_rfl, rfl⟩
theorem ent36 : Enters Tryd.prog 36 := ⟨Tryd.f36, _, Tryd.func36, by kernel_rfl, rfl⟩
end Go.SK
namespace Go.SK
open Go Go.Proofs
open Go.RowKit
theorem R4lx_Number (s : Tx) (w : World) (hl : s.length ≤ 140737488355328) : Ret Tryd.prog 18 #[str s] w (fun v w' => v = .tuple #[.int .u32 (numLx s).1, .int .i64 (numLx s).2] ∧ St w NoM [] [] w') := by
 refine Ret.enter (args := [str s]) Tryd.func18 rfl rfl rfl ?_
 have hst := St.init w
 have hidx0 : (s.getD ((0 : Int).toNat) 0).toNat = (s.getD 0 0).toNat := rfl
 have hidx1 : (s.getD ((1 : Int).toNat) 0).toNat = (s.getD 1 0).toNat := rfl
 refine SR <| AU rfl <| AI rfl <| NSR <| MS rfl <| CN <| Op1.call1 (v1 := str _) ent34 rfl rfl <| Ret.det (R4lx_Plain _ _ (by first | omega | (simp only [List.length_drop]; omega))) hst fun w hst => CN <| Op1.move (v := .tuple #[.int .u64 _, .bool _]) rfl <| CN <| Op1.extract (v := .int .u64 _) rfl rfl <| CN <| Op1.extract (v := .bool _) rfl rfl <| CN <| Op1.assign (v := .int .u64 _) rfl <| AB rfl <| NL ?_
 refine SQ <| SR <| MB rfl <| NL <| run_cond_split rfl (fun g1 => ?_) (fun g1 => ?_)
 · skip
   obtain ⟨n0, hn0⟩ := isSome_ex g1
   have hpr := plR_of hn0
   refine SR <| CN (Op1.move (v := .int .u64 _) rfl ?_)
   first | refine CN (Op1.convN ty57 ty33 rfl (wrap_u32 (by omega) (by omega)) ?_) | refine CN (Op1.conv ty57 ty33 rfl ?_)
   refine AU rfl <| AI rfl <| NL <| run_ret2 Tryd.func18 rfl (TP (v := .int .u32 _) rfl) (TP (v := .int .i64 _) rfl) ?_
   rw [numF_plain hn0, hpr.1]
   exact ⟨rfl, hst.pure⟩
 have hpn := isSome_no g1
 refine run_skip <| SQ <| SR <| MS rfl <| CN <| Op1.lenS (rest := []) ty9 rfl <| CN <| Op1.gtr rfl rfl <| MB rfl <| RunL.splitD (d := 18) rfl (fun g2 => ?_) (fun g2 => ?_)
 · skip
   refine TK (t := 18) rfl (congrArg Value.bool (decide_eq_true g2)) <| Op1.move (v := str _) rfl <| TK (t := 18) rfl (congrArg Value.bool (decide_eq_true g2)) <| Op1.indexS ty9 rfl rfl (by omega) (by omega) <| TK (t := 18) rfl (congrArg Value.bool (decide_eq_true g2)) <| Op1.eql rfl rfl <| CN <| Op1.pickT (u := .bool _) (congrArg Value.bool (decide_eq_true g2)) rfl <| NL <| run_cond_dec rfl (fun g3 => ?_) (fun g3 => ?_)
   · skip
     refine SR <| MS rfl <| CN <| Op1.sliceFrom ty9 rfl rfl (by omega) (by omega) <| CN <| Op1.call1 (v1 := str _) ent34 rfl rfl <| Ret.det (R4lx_Plain _ _ (by first | omega | (simp only [List.length_drop]; omega))) hst fun w hst => CN <| Op1.move (v := .tuple #[.int .u64 _, .bool _]) rfl <| CN <| Op1.extract (v := .int .u64 _) rfl rfl <| CN <| Op1.extract (v := .bool _) rfl rfl <| CN <| Op1.assign (v := .int .u64 _) rfl <| AB rfl <| NL <| Run.forget [(4, .int .u64 _), (5, .bool _)] ⟨rfl, rfl, trivial⟩ fun f => SQ <| SQ <| RG ?_
     refine MB rfl <| MB rfl <| RunL.split (d := 30) rfl (fun g4 => ?_) (fun g4 => ?_)
     · skip
       obtain ⟨m, hm0⟩ := isSome_ex g4
       have hm : plainF (s.drop 1) = some m := hm0
       have hpm := plR_of hm0
       have hpz : plR (s.drop ((1 : Int).toNat)) = m := hpm.1
       refine TK (t := 30) rfl (congrArg Value.bool g4) <| Op1.move (v := .int .u64 _) rfl <| TK (t := 30) rfl (congrArg Value.bool g4) <| Op1.geq rfl rfl <| CN <| Op1.pickT (u := .bool _) (congrArg Value.bool g4) rfl <| MB rfl <| RunL.splitD (d := 34) rfl (fun g5 => ?_) (fun g5 => ?_)
       · skip
         refine TK (t := 34) rfl (congrArg Value.bool (decide_eq_true g5)) <| Op1.move (v := .int .u64 _) rfl <| TK (t := 34) rfl (congrArg Value.bool (decide_eq_true g5)) <| Op1.leq rfl rfl <| CN <| Op1.pickT (u := .bool _) (congrArg Value.bool (decide_eq_true g5)) rfl <| NL <| run_cond_dec rfl (fun g6 => ?_) (fun g6 => ?_)
         · skip
           refine SR <| CN <| Op1.move (v := .int .u64 _) rfl <| CN (Op1.subN rfl rfl rfl (wrap_u64 (by omega) (by omega)) ?_)
           first | refine CN (Op1.convN ty57 ty33 rfl (wrap_u32 (by omega) (by omega)) ?_) | refine CN (Op1.conv ty57 ty33 rfl ?_)
           refine AU rfl <| AI rfl <| NL <| run_ret2 Tryd.func18 rfl (TP (v := .int .u32 _) rfl) (TP (v := .int .i64 _) rfl) ?_
           rw [numF_minus hpn (by omega) hm (by omega), show plR (s.drop ((1 : Int).toNat)) = m from hpm.1]
           exact ⟨rfl, hst.pure⟩
         refine run_skip <| SR <| AU rfl <| AI rfl <| NL <| run_ret2 Tryd.func18 rfl (TP (v := .int .u32 _) rfl) (TP (v := .int .i64 _) rfl) ?_
         rw [numF_minusBad hpn (by omega) (fun n hn => by rw [hm] at hn; cases hn; omega)]
         exact ⟨rfl, hst.pure⟩
       refine OM (t := 34) rfl (congrArg Value.bool (decide_eq_false g5)) rfl <| OM (t := 34) rfl (congrArg Value.bool (decide_eq_false g5)) rfl <| CN <| Op1.pickF (u := .bool _) (congrArg Value.bool (decide_eq_false g5)) rfl <| NL <| run_cond_false (congrArg Value.bool (rfl : false = _)) <| run_skip <| SR <| AU rfl <| AI rfl <| NL <| run_ret2 Tryd.func18 rfl (TP (v := .int .u32 _) rfl) (TP (v := .int .i64 _) rfl) ?_
       rw [numF_minusBad hpn (by omega) (fun n hn => by rw [hm] at hn; cases hn; omega)]
       exact ⟨rfl, hst.pure⟩
     have hmn : plainF (s.drop 1) = none := isSome_no g4
     refine OM (t := 30) rfl (congrArg Value.bool g4) rfl <| OM (t := 30) rfl (congrArg Value.bool g4) rfl <| CN <| Op1.pickF (u := .bool _) (congrArg Value.bool g4) rfl <| MB rfl <| OM (t := 34) rfl (congrArg Value.bool (rfl : false = _)) rfl <| OM (t := 34) rfl (congrArg Value.bool (rfl : false = _)) rfl <| CN <| Op1.pickF (u := .bool _) (congrArg Value.bool (rfl : false = _)) rfl <| NL <| run_cond_false (congrArg Value.bool (rfl : false = _)) <| run_skip <| SR <| AU rfl <| AI rfl <| NL ?_
     refine run_ret2 Tryd.func18 rfl (TP (v := .int .u32 _) rfl) (TP (v := .int .i64 _) rfl) ?_
     rw [numF_minusBad hpn (by omega) (fun n hn => by rw [hmn] at hn; cases hn)]
     exact ⟨rfl, hst.pure⟩
   refine run_skip <| SQ <| SR <| MS rfl <| CN <| Op1.lenS (rest := []) ty9 rfl <| CN <| Op1.lss rfl rfl <| MB rfl <| RunL.splitD (d := 44) rfl (fun g7 => ?_) (fun g7 => ?_)
   · skip
     refine OM (t := 44) rfl (congrArg Value.bool (decide_eq_true g7)) rfl <| OM (t := 44) rfl (congrArg Value.bool (decide_eq_true g7)) rfl <| OM (t := 44) rfl (congrArg Value.bool (decide_eq_true g7)) rfl <| CN <| Op1.pickT (u := .bool _) (congrArg Value.bool (decide_eq_true g7)) rfl <| MB rfl <| OM (t := 49) rfl (congrArg Value.bool (rfl : true = _)) rfl <| OM (t := 49) rfl (congrArg Value.bool (rfl : true = _)) rfl <| OM (t := 49) rfl (congrArg Value.bool (rfl : true = _)) rfl <| CN <| Op1.pickT (u := .bool _) (congrArg Value.bool (rfl : true = _)) rfl <| MB rfl <| OM (t := 54) rfl (congrArg Value.bool (rfl : true = _)) rfl <| OM (t := 54) rfl (congrArg Value.bool (rfl : true = _)) rfl <| OM (t := 54) rfl (congrArg Value.bool (rfl : true = _)) rfl <| CN <| Op1.pickT (u := .bool _) (congrArg Value.bool (rfl : true = _)) rfl <| NL ?_
     refine Run.forget [(0, str _), (58, .bool _)] ⟨rfl, rfl, trivial⟩ fun f => run_cond_true (congrArg Value.bool (rfl : true = _)) <| SR <| AU rfl <| AI rfl <| NL <| run_ret2 Tryd.func18 rfl (TP (v := .int .u32 _) rfl) (TP (v := .int .i64 _) rfl) ?_
     rw [numF_bad hpn (by omega) (by omega)]
     exact ⟨rfl, hst.pure⟩
   refine TK (t := 44) rfl (congrArg Value.bool (decide_eq_false g7)) <| Op1.move (v := str _) rfl <| TK (t := 44) rfl (congrArg Value.bool (decide_eq_false g7)) <| Op1.lenS (rest := []) ty9 rfl <| TK (t := 44) rfl (congrArg Value.bool (decide_eq_false g7)) <| Op1.gtr rfl rfl <| CN <| Op1.pickF (u := .bool _) (congrArg Value.bool (decide_eq_false g7)) rfl <| MB rfl <| RunL.splitD (d := 49) rfl (fun g8 => ?_) (fun g8 => ?_)
   · skip
     refine OM (t := 49) rfl (congrArg Value.bool (decide_eq_true g8)) rfl <| OM (t := 49) rfl (congrArg Value.bool (decide_eq_true g8)) rfl <| OM (t := 49) rfl (congrArg Value.bool (decide_eq_true g8)) rfl <| CN <| Op1.pickT (u := .bool _) (congrArg Value.bool (decide_eq_true g8)) rfl <| MB rfl <| OM (t := 54) rfl (congrArg Value.bool (rfl : true = _)) rfl <| OM (t := 54) rfl (congrArg Value.bool (rfl : true = _)) rfl <| OM (t := 54) rfl (congrArg Value.bool (rfl : true = _)) rfl <| CN <| Op1.pickT (u := .bool _) (congrArg Value.bool (rfl : true = _)) rfl <| NL <| Run.forget [(0, str _), (58, .bool _)] ⟨rfl, rfl, trivial⟩ fun f => run_cond_true (congrArg Value.bool (rfl : true = _)) <| SR <| AU rfl ?_
     refine AI rfl <| NL <| run_ret2 Tryd.func18 rfl (TP (v := .int .u32 _) rfl) (TP (v := .int .i64 _) rfl) ?_
     rw [numF_bad hpn (by omega) (by omega)]
     exact ⟨rfl, hst.pure⟩
   refine TK (t := 49) rfl (congrArg Value.bool (decide_eq_false g8)) <| Op1.move (v := str _) rfl <| TK (t := 49) rfl (congrArg Value.bool (decide_eq_false g8)) <| Op1.indexS ty9 rfl rfl (by omega) (by omega) <| TK (t := 49) rfl (congrArg Value.bool (decide_eq_false g8)) <| Op1.neq rfl rfl <| CN <| Op1.pickF (u := .bool _) (congrArg Value.bool (decide_eq_false g8)) rfl <| MB rfl <| RunL.splitD (d := 54) rfl (fun g9 => ?_) (fun g9 => ?_)
   · skip
     refine OM (t := 54) rfl (congrArg Value.bool (decide_eq_true g9)) rfl <| OM (t := 54) rfl (congrArg Value.bool (decide_eq_true g9)) rfl <| OM (t := 54) rfl (congrArg Value.bool (decide_eq_true g9)) rfl <| CN <| Op1.pickT (u := .bool _) (congrArg Value.bool (decide_eq_true g9)) rfl <| NL <| Run.forget [(0, str _), (58, .bool _)] ⟨rfl, rfl, trivial⟩ fun f => run_cond_true (congrArg Value.bool (rfl : true = _)) <| SR <| AU rfl <| AI rfl <| NL <| run_ret2 Tryd.func18 rfl (TP (v := .int .u32 _) rfl) (TP (v := .int .i64 _) rfl) ?_
     rw [numF_bad hpn (by omega) (by omega)]
     exact ⟨rfl, hst.pure⟩
   refine TK (t := 54) rfl (congrArg Value.bool (decide_eq_false g9)) <| Op1.move (v := str _) rfl <| TK (t := 54) rfl (congrArg Value.bool (decide_eq_false g9)) <| Op1.indexS ty9 rfl rfl (by omega) (by omega) <| TK (t := 54) rfl (congrArg Value.bool (decide_eq_false g9)) <| Op1.neq rfl rfl <| CN <| Op1.pickF (u := .bool _) (congrArg Value.bool (decide_eq_false g9)) rfl <| NL <| Run.forget [(0, str _), (58, .bool _)] ⟨rfl, rfl, trivial⟩ fun f => run_cond_dec rfl (fun g10 => ?_) (fun g10 => ?_)
   · skip
     refine SR <| AU rfl <| AI rfl <| NL <| run_ret2 Tryd.func18 rfl (TP (v := .int .u32 _) rfl) (TP (v := .int .i64 _) rfl) ?_
     rw [numF_bad hpn (by omega) (by omega)]
     exact ⟨rfl, hst.pure⟩
   refine run_skip <| SR <| CN <| Op1.assign (v := .int .u64 _) rfl <| NL <| SQ <| SR <| AI rfl <| NL <| run_block <| run_loop <| Run.indW [(0, str _)] ⟨rfl, trivial⟩ (fun (qq : Nat × Nat) => [(4, .int .u64 (qq.2 : Int)), (6, .int .i64 ((qq.1 + 2 : Nat) : Int))]) (fun (qq : Nat × Nat) => []) (fun (qq : Nat × Nat) => qq.1 + 2 ≤ s.length ∧ qq.2 < 16 ^ qq.1 ∧ hexsF (s.drop 2) 0 = hexsF (s.drop (qq.1 + 2)) qq.2) (fun (qq : Nat × Nat) => s.length - qq.1) ((0, 0)) hst ⟨by (try dsimp only); omega, by decide, rfl⟩ ⟨rfl, rfl, trivial⟩ ?_
   intro ⟨k, n⟩ f w hst hJ ih11
   replace hst : St _ _ ([] ++ []) _ _ := hst
   replace hJ : k + 2 ≤ s.length ∧ n < 16 ^ k ∧ hexsF (s.drop 2) 0 = hexsF (s.drop (k + 2)) n := hJ
   refine Run.slots (sl := [(4, .int .u64 (n : Int)), (6, .int .i64 ((k + 2 : Nat) : Int))]) ⟨rfl, rfl, trivial⟩ ?_
   have hidx : (s.getD ((((k + 2 : Nat) : Int)).toNat) 0).toNat = (s.getD (k + 2) 0).toNat := rfl
   have hidw : worF (s.getD ((((k + 2 : Nat) : Int)).toNat) 0) = worF (s.getD (k + 2) 0) := rfl
   refine SQ <| SR <| MI rfl <| MS rfl <| CN <| Op1.lenS (rest := []) ty9 rfl <| CN <| Op1.lss rfl rfl <| NL <| run_cond_dec rfl (fun g12 => ?_) (fun g12 => ?_)
   · skip
     have hp16 := pow16_le (i := k) (by omega)
     refine run_skip <| SQ <| run_block <| SQ <| SR <| MS rfl <| MI rfl <| CN <| Op1.indexS ty9 rfl rfl (by omega) (by omega) <| CN <| Op1.call1 (v1 := .int .u8 _) ent35 rfl rfl <| Ret.det (R4lx_Hex _ _) hst fun w hst => CN <| Op1.not rfl <| NL <| run_cond_split rfl (fun g13 => ?_) (fun g13 => ?_)
     · skip
       have hnd : ¬ hexB (s.getD (k + 2) 0) = true := not_t g13
       refine SR <| AU rfl <| AI rfl <| NL <| run_ret2 Tryd.func18 rfl (TP (v := .int .u32 _) rfl) (TP (v := .int .i64 _) rfl) ?_
       rw [numF_hexBad hpn (by omega) (by omega) (hJ.2.2.trans (hexs_stop (by omega) hnd))]
       exact ⟨rfl, hst.pure⟩
     have hyd : hexB (s.getD (k + 2) 0) = true := not_f g13
     have hdb := (hex_bd hyd).2
     refine run_skip <| RG <| CN <| Op1.move (v := .int .u64 _) rfl <| CN <| Op1.mulN rfl rfl rfl (wrap_u64 (by omega) (by omega)) <| MS rfl <| MI rfl <| CN <| Op1.indexS ty9 rfl rfl (by omega) (by omega) <| CN <| Op1.call1 (v1 := .int .u8 _) ent36 rfl rfl <| Ret.det (R4lx_Worth _ hyd _) hst fun w hst => CN <| Op1.addN rfl rfl rfl (wrap_u64 (by omega) (by omega)) <| CN <| Op1.assign (v := .int .u64 _) rfl <| NL <| run_inBlock <| RG <| MI rfl <| CN (Op1.addN rfl rfl rfl (wrap_i64 (by omega) (by omega)) ?_)
     refine AI rfl <| NL <| run_inLoop ?_
     exact ih11 ((k + 1, 16 * n + worF (s.getD (k + 2) 0))) _ w (by (try dsimp only); omega) hst (⟨by (try dsimp only); omega, by (try dsimp only); exact pow16_step hJ.2.1 (by omega), by (try dsimp only); rw [hJ.2.2, hexs_step (by omega) hyd]⟩) ⟨rfl, trivial⟩ ⟨(congrArg (Value.int .u64) (by (try dsimp only); omega)), (congrArg (Value.int .i64) (by (try dsimp only); omega)), trivial⟩
   have hp16 := pow16_le8 (i := k) (by omega)
   refine run_exit (id := 0) rfl <| SR <| CN (Op1.move (v := .int .u64 _) rfl ?_)
   first | refine CN (Op1.convN ty57 ty33 rfl (wrap_u32 (by omega) (by omega)) ?_) | refine CN (Op1.conv ty57 ty33 rfl ?_)
   refine AU rfl <| AI rfl <| NL <| run_ret2 Tryd.func18 rfl (TP (v := .int .u32 _) rfl) (TP (v := .int .i64 _) rfl) ?_
   rw [numF_hex hpn (by omega) (by omega) (hJ.2.2.trans (hexs_end (by omega)))]
   exact ⟨rfl, hst.pure⟩
 refine OM (t := 18) rfl (congrArg Value.bool (decide_eq_false g2)) rfl <| OM (t := 18) rfl (congrArg Value.bool (decide_eq_false g2)) rfl <| OM (t := 18) rfl (congrArg Value.bool (decide_eq_false g2)) rfl <| CN <| Op1.pickF (u := .bool _) (congrArg Value.bool (decide_eq_false g2)) rfl <| NL <| run_cond_false (congrArg Value.bool (rfl : false = _)) <| run_skip <| SQ <| SR <| MS rfl <| CN <| Op1.lenS (rest := []) ty9 rfl <| CN <| Op1.lss rfl rfl <| MB rfl <| RunL.splitD (d := 44) rfl (fun g14 => ?_) (fun g14 => ?_)
 · skip
   refine OM (t := 44) rfl (congrArg Value.bool (decide_eq_true g14)) rfl <| OM (t := 44) rfl (congrArg Value.bool (decide_eq_true g14)) rfl <| OM (t := 44) rfl (congrArg Value.bool (decide_eq_true g14)) rfl <| CN <| Op1.pickT (u := .bool _) (congrArg Value.bool (decide_eq_true g14)) rfl <| MB rfl <| OM (t := 49) rfl (congrArg Value.bool (rfl : true = _)) rfl <| OM (t := 49) rfl (congrArg Value.bool (rfl : true = _)) rfl <| OM (t := 49) rfl (congrArg Value.bool (rfl : true = _)) rfl <| CN <| Op1.pickT (u := .bool _) (congrArg Value.bool (rfl : true = _)) rfl <| MB rfl <| OM (t := 54) rfl (congrArg Value.bool (rfl : true = _)) rfl <| OM (t := 54) rfl (congrArg Value.bool (rfl : true = _)) rfl <| OM (t := 54) rfl (congrArg Value.bool (rfl : true = _)) rfl <| CN <| Op1.pickT (u := .bool _) (congrArg Value.bool (rfl : true = _)) rfl <| NL ?_
   refine Run.forget [(0, str _), (58, .bool _)] ⟨rfl, rfl, trivial⟩ fun f => run_cond_true (congrArg Value.bool (rfl : true = _)) <| SR <| AU rfl <| AI rfl <| NL <| run_ret2 Tryd.func18 rfl (TP (v := .int .u32 _) rfl) (TP (v := .int .i64 _) rfl) ?_
   rw [numF_bad hpn (by omega) (by omega)]
   exact ⟨rfl, hst.pure⟩
 refine TK (t := 44) rfl (congrArg Value.bool (decide_eq_false g14)) <| Op1.move (v := str _) rfl <| TK (t := 44) rfl (congrArg Value.bool (decide_eq_false g14)) <| Op1.lenS (rest := []) ty9 rfl <| TK (t := 44) rfl (congrArg Value.bool (decide_eq_false g14)) <| Op1.gtr rfl rfl <| CN <| Op1.pickF (u := .bool _) (congrArg Value.bool (decide_eq_false g14)) rfl <| MB rfl <| RunL.splitD (d := 49) rfl (fun g15 => ?_) (fun g15 => ?_)
 · skip
   refine OM (t := 49) rfl (congrArg Value.bool (decide_eq_true g15)) rfl <| OM (t := 49) rfl (congrArg Value.bool (decide_eq_true g15)) rfl <| OM (t := 49) rfl (congrArg Value.bool (decide_eq_true g15)) rfl <| CN <| Op1.pickT (u := .bool _) (congrArg Value.bool (decide_eq_true g15)) rfl <| MB rfl <| OM (t := 54) rfl (congrArg Value.bool (rfl : true = _)) rfl <| OM (t := 54) rfl (congrArg Value.bool (rfl : true = _)) rfl <| OM (t := 54) rfl (congrArg Value.bool (rfl : true = _)) rfl <| CN <| Op1.pickT (u := .bool _) (congrArg Value.bool (rfl : true = _)) rfl <| NL <| Run.forget [(0, str _), (58, .bool _)] ⟨rfl, rfl, trivial⟩ fun f => run_cond_true (congrArg Value.bool (rfl : true = _)) <| SR <| AU rfl ?_
   refine AI rfl <| NL <| run_ret2 Tryd.func18 rfl (TP (v := .int .u32 _) rfl) (TP (v := .int .i64 _) rfl) ?_
   rw [numF_bad hpn (by omega) (by omega)]
   exact ⟨rfl, hst.pure⟩
 refine TK (t := 49) rfl (congrArg Value.bool (decide_eq_false g15)) <| Op1.move (v := str _) rfl <| TK (t := 49) rfl (congrArg Value.bool (decide_eq_false g15)) <| Op1.indexS ty9 rfl rfl (by omega) (by omega) <| TK (t := 49) rfl (congrArg Value.bool (decide_eq_false g15)) <| Op1.neq rfl rfl <| CN <| Op1.pickF (u := .bool _) (congrArg Value.bool (decide_eq_false g15)) rfl <| MB rfl <| RunL.splitD (d := 54) rfl (fun g16 => ?_) (fun g16 => ?_)
 · skip
   refine OM (t := 54) rfl (congrArg Value.bool (decide_eq_true g16)) rfl <| OM (t := 54) rfl (congrArg Value.bool (decide_eq_true g16)) rfl <| OM (t := 54) rfl (congrArg Value.bool (decide_eq_true g16)) rfl <| CN <| Op1.pickT (u := .bool _) (congrArg Value.bool (decide_eq_true g16)) rfl <| NL <| Run.forget [(0, str _), (58, .bool _)] ⟨rfl, rfl, trivial⟩ fun f => run_cond_true (congrArg Value.bool (rfl : true = _)) <| SR <| AU rfl <| AI rfl <| NL <| run_ret2 Tryd.func18 rfl (TP (v := .int .u32 _) rfl) (TP (v := .int .i64 _) rfl) ?_
   rw [numF_bad hpn (by omega) (by omega)]
   exact ⟨rfl, hst.pure⟩
 refine TK (t := 54) rfl (congrArg Value.bool (decide_eq_false g16)) <| Op1.move (v := str _) rfl <| TK (t := 54) rfl (congrArg Value.bool (decide_eq_false g16)) <| Op1.indexS ty9 rfl rfl (by omega) (by omega) <| TK (t := 54) rfl (congrArg Value.bool (decide_eq_false g16)) <| Op1.neq rfl rfl <| CN <| Op1.pickF (u := .bool _) (congrArg Value.bool (decide_eq_false g16)) rfl <| NL <| Run.forget [(0, str _), (58, .bool _)] ⟨rfl, rfl, trivial⟩ fun f => run_cond_dec rfl (fun g17 => ?_) (fun g17 => ?_)
 · skip
   refine SR <| AU rfl <| AI rfl <| NL <| run_ret2 Tryd.func18 rfl (TP (v := .int .u32 _) rfl) (TP (v := .int .i64 _) rfl) ?_
   rw [numF_bad hpn (by omega) (by omega)]
   exact ⟨rfl, hst.pure⟩
 refine run_skip <| SR <| CN <| Op1.assign (v := .int .u64 _) rfl <| NL <| SQ <| SR <| AI rfl <| NL <| run_block <| run_loop <| Run.indW [(0, str _)] ⟨rfl, trivial⟩ (fun (qq : Nat × Nat) => [(4, .int .u64 (qq.2 : Int)), (6, .int .i64 ((qq.1 + 2 : Nat) : Int))]) (fun (qq : Nat × Nat) => []) (fun (qq : Nat × Nat) => qq.1 + 2 ≤ s.length ∧ qq.2 < 16 ^ qq.1 ∧ hexsF (s.drop 2) 0 = hexsF (s.drop (qq.1 + 2)) qq.2) (fun (qq : Nat × Nat) => s.length - qq.1) ((0, 0)) hst ⟨by (try dsimp only); omega, by decide, rfl⟩ ⟨rfl, rfl, trivial⟩ ?_
 intro ⟨k, n⟩ f w hst hJ ih18
 replace hst : St _ _ ([] ++ []) _ _ := hst
 replace hJ : k + 2 ≤ s.length ∧ n < 16 ^ k ∧ hexsF (s.drop 2) 0 = hexsF (s.drop (k + 2)) n := hJ
 refine Run.slots (sl := [(4, .int .u64 (n : Int)), (6, .int .i64 ((k + 2 : Nat) : Int))]) ⟨rfl, rfl, trivial⟩ ?_
 have hidx : (s.getD ((((k + 2 : Nat) : Int)).toNat) 0).toNat = (s.getD (k + 2) 0).toNat := rfl
 have hidw : worF (s.getD ((((k + 2 : Nat) : Int)).toNat) 0) = worF (s.getD (k + 2) 0) := rfl
 refine SQ <| SR <| MI rfl <| MS rfl <| CN <| Op1.lenS (rest := []) ty9 rfl <| CN <| Op1.lss rfl rfl <| NL <| run_cond_dec rfl (fun g19 => ?_) (fun g19 => ?_)
 · skip
   have hp16 := pow16_le (i := k) (by omega)
   refine run_skip <| SQ <| run_block <| SQ <| SR <| MS rfl <| MI rfl <| CN <| Op1.indexS ty9 rfl rfl (by omega) (by omega) <| CN <| Op1.call1 (v1 := .int .u8 _) ent35 rfl rfl <| Ret.det (R4lx_Hex _ _) hst fun w hst => CN <| Op1.not rfl <| NL <| run_cond_split rfl (fun g20 => ?_) (fun g20 => ?_)
   · skip
     have hnd : ¬ hexB (s.getD (k + 2) 0) = true := not_t g20
     refine SR <| AU rfl <| AI rfl <| NL <| run_ret2 Tryd.func18 rfl (TP (v := .int .u32 _) rfl) (TP (v := .int .i64 _) rfl) ?_
     rw [numF_hexBad hpn (by omega) (by omega) (hJ.2.2.trans (hexs_stop (by omega) hnd))]
     exact ⟨rfl, hst.pure⟩
   have hyd : hexB (s.getD (k + 2) 0) = true := not_f g20
   have hdb := (hex_bd hyd).2
   refine run_skip <| RG <| CN <| Op1.move (v := .int .u64 _) rfl <| CN <| Op1.mulN rfl rfl rfl (wrap_u64 (by omega) (by omega)) <| MS rfl <| MI rfl <| CN <| Op1.indexS ty9 rfl rfl (by omega) (by omega) <| CN <| Op1.call1 (v1 := .int .u8 _) ent36 rfl rfl <| Ret.det (R4lx_Worth _ hyd _) hst fun w hst => CN <| Op1.addN rfl rfl rfl (wrap_u64 (by omega) (by omega)) <| CN <| Op1.assign (v := .int .u64 _) rfl <| NL <| run_inBlock <| RG <| MI rfl <| CN (Op1.addN rfl rfl rfl (wrap_i64 (by omega) (by omega)) ?_)
   refine AI rfl <| NL <| run_inLoop ?_
   exact ih18 ((k + 1, 16 * n + worF (s.getD (k + 2) 0))) _ w (by (try dsimp only); omega) hst (⟨by (try dsimp only); omega, by (try dsimp only); exact pow16_step hJ.2.1 (by omega), by (try dsimp only); rw [hJ.2.2, hexs_step (by omega) hyd]⟩) ⟨rfl, trivial⟩ ⟨(congrArg (Value.int .u64) (by (try dsimp only); omega)), (congrArg (Value.int .i64) (by (try dsimp only); omega)), trivial⟩
 have hp16 := pow16_le8 (i := k) (by omega)
 refine run_exit (id := 0) rfl <| SR <| CN (Op1.move (v := .int .u64 _) rfl ?_)
 first | refine CN (Op1.convN ty57 ty33 rfl (wrap_u32 (by omega) (by omega)) ?_) | refine CN (Op1.conv ty57 ty33 rfl ?_)
 refine AU rfl <| AI rfl <| NL <| run_ret2 Tryd.func18 rfl (TP (v := .int .u32 _) rfl) (TP (v := .int .i64 _) rfl) ?_
 rw [numF_hex hpn (by omega) (by omega) (hJ.2.2.trans (hexs_end (by omega)))]
 exact ⟨rfl, hst.pure⟩
end Go.SK
namespace Go.SK
open Go Go.Proofs
theorem ent18 : Enters Tryd.prog 18 := ⟨Tryd.f18, _, Tryd.func18, by kernel_rfl, rfl⟩
end Go.SK
