/-
  Steps of functions, plain law, and walks of functions: what the laws rest on.
-/
import Derived.Test.YtglmmdpeenckbaaGreatDoorSkH0c
import Derived.Test.YtglmmdpeenckbaaGreatDoorSkH1a
import Derived.Test.YtglmmdpeenckbaaGreatDoorSkH4a
import Derived.Test.YtglmmdpeenckbaaGreatDoorSkH7a
set_option linter.unusedVariables false
set_option linter.unusedSimpArgs false
set_option linter.unusedSectionVars false
namespace Go.SK
open Go.RowKit
section
variable {P : Program} {ty : TypeId} {ρ : Operand → Value} {w : World} {C : Value → World → Prop} {g : FuncId} {tys : Array TypeId}
variable {a1 a2 a3 a4 a5 : Operand} {v1 v2 v3 v4 v5 : Value}
variable {T : TypeId} {d : TypeDesc} {sz bytes : Nat} {zs : List Value} {k : IntKind} {a b : Int}
theorem zea {x y z : Operand} {s : List UInt8} {k2 : IntKind} {a b : Int} (hT : TyF P T .string sz bytes zs) (hx : ρ x = str s) (hy : ρ y = .int k a) (hz : ρ z = .int k2 b) (h0 : 0 ≤ a) (h1 : a ≤ b) (h2 : b ≤ s.length)
    (hc : C (str ((s.drop a.toNat).take (b.toNat - a.toNat))) w) : Op1 P (.slice T x (some y) (some z) none) ty ρ w C := by
  refine zco (v := str ((s.drop a.toNat).take (b.toNat - a.toNat))) (w' := w) ?_ hc
  have hs : (ByteArray.mk s.toArray).size = s.length := by simp [ByteArray.size]
  have h3 : 0 ≤ b := by omega
  have h4 : max b 0 = b := by omega
  simp [execOp, Instr.sliceAt, Instr.slice, Instr.sliceBounds, Instr.sliceBound, asIntOf, hx, hy, hz, str, Sem.run_bind, hT.run_und, Result.andThen, hs, ziJ, h0, h1, h2, h3, h4]
end
end Go.SK
namespace Go.SK
open Go.RowKit
section
variable {P : Program} {ty : TypeId} {ρ : Operand → Value} {w : World} {C : Value → World → Prop} {g : FuncId} {tys : Array TypeId}
theorem zve {a1 a2 a3 a4 a5 a6 a7 a8 : Operand} {v1 v2 v3 v4 v5 v6 v7 v8 : Value} (hg : zaN P g) (hf : ρ (.func g) = .func (.func g) #[] #[]) (h1 : ρ a1 = v1) (h2 : ρ a2 = v2) (h3 : ρ a3 = v3) (h4 : ρ a4 = v4) (h5 : ρ a5 = v5) (h6 : ρ a6 = v6) (h7 : ρ a7 = v7) (h8 : ρ a8 = v8) (hc : Ret P g #[v1, v2, v3, v4, v5, v6, v7, v8] w C) : Op1 P (.call ⟨.value (.func g), #[a1, a2, a3, a4, a5, a6, a7, a8], tys⟩) ty ρ w C :=
  zeQ (args := [a1, a2, a3, a4, a5, a6, a7, a8]) (vs := [v1, v2, v3, v4, v5, v6, v7, v8]) hg hf (by simp [h1, h2, h3, h4, h5, h6, h7, h8]) hc
end
end Go.SK
namespace Go.SK
open Go.RowKit
section
variable {ao : Option Addr} {n es : Nat} {xs : List Value} {w : World}
theorem Res.rs2_cellF {k f : Nat} {v : Value} (h : (Res.rs ao n es xs).holds w) (hv : xs[0 + k + f]? = some v) : w.cell? ⟨Rb ao, Ro ao + k + f, none⟩ = some v := by
  rw [Nat.zero_add] at hv
  have := Res.rs_all2 h (k + f) v hv
  rwa [← Nat.add_assoc] at this
end
end Go.SK
namespace Go.SK
abbrev zmn (n : NameL) : List Value := [.int .u8 n.letter, .int .u32 n.n, str n.name]
theorem zeD (n : NameL) : (zmn n).length = 3 := rfl
theorem zmo {k r m : Int} (hr : 0 < r) : (m ≤ k / r ↔ m * r ≤ k) := Int.le_ediv_iff_mul_le hr
theorem div_bd {a b : Int} (ha : 0 ≤ a) (hb : 0 < b) : 0 ≤ a / b ∧ a / b ≤ a := ⟨Int.ediv_nonneg ha Om, Int.ediv_le_self b ha⟩
end Go.SK
namespace Go.SK
theorem znU : zbZ 0 = 0 := by decide +kernel
theorem zg2 {f : FormL} {ks : List Int} (hr : f.rest = []) (h : zjw f 0 ks = none) : ks.length ≤ f.fixed.length := by
  refine Classical.byContradiction fun hn => ?_
  have key : ∀ i, i ≤ f.fixed.length → zjw f i (ks.drop i) = none := by
    intro i
    induction i with
    | zero => intro _; exact h
    | succ i ih =>
      intro hi
      have h1 := ih Om
      refine zmL h1 Om fun hb => ?_
      have := ziO h1 Om hb
      cases this
  have h1 := key f.fixed.length (Nat.le_refl _)
  have hb : zx4 f f.fixed.length (ks.getD f.fixed.length 0) := by
    have hl : zaP f (f.fixed.length : Int) = 0 := by
      unfold zaP
      rw [if_neg (by omega), if_neg (by omega)]
      unfold zgn; rw [if_pos (.inr (.inl hr))]
    by_cases hk : ks.getD f.fixed.length 0 = 0
    · exact .inl hk
    · right; rw [hl, znU]; exact fun e => hk e.symm
  have := ziO h1 Om hb
  cases this
end Go.SK
namespace Go.SK
open Go.RowKit
section
variable {P : Program} {ty : TypeId} {ρ : Operand → Value} {w : World} {C : Value → World → Prop} {g : FuncId} {tys : Array TypeId}
theorem zaG {a1 a2 a3 a4 a5 a6 a7 a8 : Operand} {x1 x7 x8 : Int} {x2 x5 x6 : List UInt8} {x3 x4 : Bool} (hg : zaN P g) (hf : ρ (.func g) = .func (.func g) #[] #[]) (h1 : ρ a1 = .int .u16 x1) (h2 : ρ a2 = str x2) (h3 : ρ a3 = .bool x3) (h4 : ρ a4 = .bool x4) (h5 : ρ a5 = str x5) (h6 : ρ a6 = str x6) (h7 : ρ a7 = .int .i64 x7) (h8 : ρ a8 = .int .u8 x8) (hc : Ret P g #[.int .u16 x1, str x2, .bool x3, .bool x4, str x5, str x6, .int .i64 x7, .int .u8 x8] w C) : Op1 P (.call ⟨.value (.func g), #[a1, a2, a3, a4, a5, a6, a7, a8], tys⟩) ty ρ w C := zve hg hf h1 h2 h3 h4 h5 h6 h7 h8 hc
end
end Go.SK
namespace Go.SK
open Go.RowKit
theorem rg15 : List.range 15 = [0, 1, 2, 3, 4, 5, 6, 7, 8, 9, 10, 11, 12, 13, 14] := rfl
end Go.SK
namespace Go.SK
theorem run_no {c : UInt8} (h : zfv c = false) (h2 : zdT c = false) : ¬ zji c = true := by unfold zji; rw [h, h2]; decide
theorem zqM {i : Nat} (h : i ≤ 9) : 10 ^ i ≤ 1000000000 := by
  have : 10 ^ i ≤ 10 ^ 9 := Nat.pow_le_pow_right Om h
  omega
theorem zlq {i n d : Nat} (h : n < 10 ^ i) (hd : d ≤ 9) : 10 * n + d < 10 ^ (i + 1) := by rw [Nat.pow_succ]; omega
end Go.SK
namespace Go.SK
open Go Go.Proofs
theorem zlI : zaN Tryz.prog 167 := ⟨Tryz.f167, _, Tryz.func167, Kr, rfl⟩
end Go.SK
namespace Go.SK
open Go Go.Proofs
open Go.RowKit
theorem zhy (c : UInt8) (w : World) : Ret Tryz.prog 162 #[.int .u8 (c.toNat : Int)] w (fun v w' => v = .bool (zfv c) ∧ St w NoM [] [] w') := by
 refine zav (args := [.int .u8 (c.toNat : Int)]) Tryz.func162 rfl rfl rfl ?_
 have hst := St.init w
 refine SR <| AB rfl <| NSR <| MC rfl <| CN <| zbo rfl rfl <| MB rfl <| zan (d := 5) rfl (fun g1 => ?_) (fun g1 => ?_)
 ·refine TK (t := 5) rfl (Vb (Dt g1)) <| zad (v := .int .u8 _) rfl <| TK (t := 5) rfl (Vb (Dt g1)) <| zbI rfl rfl <| CN <| zap (u := .bool _) (Vb (Dt g1)) rfl <| MB rfl <| zan (d := 9) rfl (fun g2 => ?_) (fun g2 => ?_)
  ·refine OM (t := 9) rfl (Vb (Dt g2)) rfl <| OM (t := 9) rfl (Vb (Dt g2)) rfl <| OM (t := 9) rfl (Vb (Dt g2)) rfl <| zaB (t := 12) rfl rfl <| zaB (t := 12) rfl rfl <| OM (t := 9) rfl (Vb (Dt g2)) rfl <| CN <| zap (u := .bool _) (Vb (Dt g2)) rfl <| MB rfl <| OM (t := 17) rfl (Vb (rfl : true = _)) rfl <| OM (t := 17) rfl (Vb (rfl : true = _)) rfl <| CN <| zap (u := .bool _) (Vb (rfl : true = _)) rfl <| AB rfl <| NL <| zah Tryz.func162 rfl (TP (v := .bool _) rfl) <| ⟨Vb ?_, hst.pure⟩
   unfold zfv
   first | (rw [decide_eq_decide]; omega) | exact (Df (by omega)).symm | exact (Dt (by omega)).symm
  refine TK (t := 9) rfl (Vb (Df g2)) <| zad (v := .int .u8 _) rfl <| TK (t := 9) rfl (Vb (Df g2)) <| zbo rfl rfl <| TK (t := 9) rfl (Vb (Df g2)) <| zad (v := .bool _) rfl <| zan (d := 12) rfl (fun g3 => ?_) (fun g3 => ?_)
  ·refine TK (t := 12) rfl (Vb (Dt g3)) <| zad (v := .int .u8 _) rfl <| TK (t := 12) rfl (Vb (Dt g3)) <| zbI rfl rfl <| TK (t := 9) rfl (Vb (Df g2)) <| zap (u := .bool _) (Vb (Dt g3)) rfl <| CN <| zaq (u := .bool _) (Vb (Df g2)) rfl <| MB rfl <| zan (d := 17) rfl (fun g4 => ?_) (fun g4 => ?_)
   ·refine OM (t := 17) rfl (Vb (Dt g4)) rfl <| OM (t := 17) rfl (Vb (Dt g4)) rfl <| CN <| zap (u := .bool _) (Vb (Dt g4)) rfl <| AB rfl <| NL <| zah Tryz.func162 rfl (TP (v := .bool _) rfl) <| ⟨Vb ?_, hst.pure⟩
    unfold zfv
    first | (rw [decide_eq_decide]; omega) | exact (Df (by omega)).symm | exact (Dt (by omega)).symm
   refine TK (t := 17) rfl (Vb (Df g4)) <| zad (v := .int .u8 _) rfl <| TK (t := 17) rfl (Vb (Df g4)) <| zak rfl rfl <| CN <| zaq (u := .bool _) (Vb (Df g4)) rfl <| AB rfl <| NL <| zah Tryz.func162 rfl (TP (v := .bool _) rfl) <| ⟨Vb ?_, hst.pure⟩
   unfold zfv
   first | (rw [decide_eq_decide]; omega) | exact (Df (by omega)).symm | exact (Dt (by omega)).symm
  refine OM (t := 12) rfl (Vb (Df g3)) rfl <| OM (t := 12) rfl (Vb (Df g3)) rfl <| TK (t := 9) rfl (Vb (Df g2)) <| zaq (u := .bool _) (Vb (Df g3)) rfl <| CN <| zaq (u := .bool _) (Vb (Df g2)) rfl <| MB rfl <| TK (t := 17) rfl (Vb (rfl : false = _)) <| zad (v := .int .u8 _) rfl <| TK (t := 17) rfl (Vb (rfl : false = _)) <| zak rfl rfl <| CN <| zaq (u := .bool _) (Vb (rfl : false = _)) rfl <| AB rfl <| NL <| zah Tryz.func162 rfl (TP (v := .bool _) rfl) <| ⟨Vb ?_, hst.pure⟩
  unfold zfv
  first | (rw [decide_eq_decide]; omega) | exact (Df (by omega)).symm | exact (Dt (by omega)).symm
 refine OM (t := 5) rfl (Vb (Df g1)) rfl <| OM (t := 5) rfl (Vb (Df g1)) rfl <| CN <| zaq (u := .bool _) (Vb (Df g1)) rfl <| MB rfl <| TK (t := 9) rfl (Vb (rfl : false = _)) <| zad (v := .int .u8 _) rfl <| TK (t := 9) rfl (Vb (rfl : false = _)) <| zbo rfl rfl <| TK (t := 9) rfl (Vb (rfl : false = _)) <| zad (v := .bool _) rfl <| zan (d := 12) rfl (fun g5 => ?_) (fun g5 => ?_)
 ·refine TK (t := 12) rfl (Vb (Dt g5)) <| zad (v := .int .u8 _) rfl <| TK (t := 12) rfl (Vb (Dt g5)) <| zbI rfl rfl <| TK (t := 9) rfl (Vb (rfl : false = _)) <| zap (u := .bool _) (Vb (Dt g5)) rfl <| CN <| zaq (u := .bool _) (Vb (rfl : false = _)) rfl <| MB rfl <| zan (d := 17) rfl (fun g6 => ?_) (fun g6 => ?_)
  ·refine OM (t := 17) rfl (Vb (Dt g6)) rfl <| OM (t := 17) rfl (Vb (Dt g6)) rfl <| CN <| zap (u := .bool _) (Vb (Dt g6)) rfl <| AB rfl <| NL <| zah Tryz.func162 rfl (TP (v := .bool _) rfl) <| ⟨Vb ?_, hst.pure⟩
   unfold zfv
   first | (rw [decide_eq_decide]; omega) | exact (Df (by omega)).symm | exact (Dt (by omega)).symm
  refine TK (t := 17) rfl (Vb (Df g6)) <| zad (v := .int .u8 _) rfl <| TK (t := 17) rfl (Vb (Df g6)) <| zak rfl rfl <| CN <| zaq (u := .bool _) (Vb (Df g6)) rfl <| AB rfl <| NL <| zah Tryz.func162 rfl (TP (v := .bool _) rfl) <| ⟨Vb ?_, hst.pure⟩
  unfold zfv
  first | (rw [decide_eq_decide]; omega) | exact (Df (by omega)).symm | exact (Dt (by omega)).symm
 refine OM (t := 12) rfl (Vb (Df g5)) rfl <| OM (t := 12) rfl (Vb (Df g5)) rfl <| TK (t := 9) rfl (Vb (rfl : false = _)) <| zaq (u := .bool _) (Vb (Df g5)) rfl <| CN <| zaq (u := .bool _) (Vb (rfl : false = _)) rfl <| MB rfl <| TK (t := 17) rfl (Vb (rfl : false = _)) <| zad (v := .int .u8 _) rfl <| TK (t := 17) rfl (Vb (rfl : false = _)) <| zak rfl rfl <| CN <| zaq (u := .bool _) (Vb (rfl : false = _)) rfl <| AB rfl <| NL <| zah Tryz.func162 rfl (TP (v := .bool _) rfl) <| ⟨Vb ?_, hst.pure⟩
 unfold zfv
 first | (rw [decide_eq_decide]; omega) | exact (Df (by omega)).symm | exact (Dt (by omega)).symm
theorem zeu (c : UInt8) (w : World) : Ret Tryz.prog 167 #[.int .u8 (c.toNat : Int)] w (fun v w' => v = .bool (zdT c) ∧ St w NoM [] [] w') := by
 refine zav (args := [.int .u8 (c.toNat : Int)]) Tryz.func167 rfl rfl rfl ?_
 have hst := St.init w
 refine SR <| AB rfl <| NSR <| MC rfl <| CN <| zbo rfl rfl <| MB rfl <| zan (d := 5) rfl (fun g1 => ?_) (fun g1 => ?_)
 ·refine TK (t := 5) rfl (Vb (Dt g1)) <| zad (v := .int .u8 _) rfl <| TK (t := 5) rfl (Vb (Dt g1)) <| zbI rfl rfl <| CN <| zap (u := .bool _) (Vb (Dt g1)) rfl <| AB rfl <| NL <| zah Tryz.func167 rfl (TP (v := .bool _) rfl) <| ⟨Vb ?_, hst.pure⟩
  unfold zdT
  first | (rw [decide_eq_decide]; omega) | exact (Df (by omega)).symm | exact (Dt (by omega)).symm
 refine OM (t := 5) rfl (Vb (Df g1)) rfl <| OM (t := 5) rfl (Vb (Df g1)) rfl <| CN <| zaq (u := .bool _) (Vb (Df g1)) rfl <| AB rfl <| NL <| zah Tryz.func167 rfl (TP (v := .bool _) rfl) <| ⟨Vb ?_, hst.pure⟩
 unfold zdT
 first | (rw [decide_eq_decide]; omega) | exact (Df (by omega)).symm | exact (Dt (by omega)).symm
theorem zg7 (c : UInt8) (w : World) : Ret Tryz.prog 169 #[.int .u8 (c.toNat : Int)] w (fun v w' => v = .bool (zcY c) ∧ St w NoM [] [] w') := by
 refine zav (args := [.int .u8 (c.toNat : Int)]) Tryz.func169 rfl rfl rfl ?_
 have hst := St.init w
 refine SR <| AB rfl <| NSR <| MC rfl <| CN <| Op1.call1 (v1 := .int .u8 _) zlI rfl rfl <| Ret.det (zeu _ _) hst fun w hst => MB rfl <| zbH (d := 5) rfl (fun g1 => ?_) (fun g1 => ?_)
 ·have hdb := zhk g1
  refine OM (t := 5) rfl (Vb g1) rfl <| OM (t := 5) rfl (Vb g1) rfl <| OM (t := 5) rfl (Vb g1) rfl <| zaB (t := 8) rfl rfl <| zaB (t := 8) rfl rfl <| OM (t := 5) rfl (Vb g1) rfl <| CN <| zap (u := .bool _) (Vb g1) rfl <| MB rfl <| OM (t := 13) rfl (Vb (rfl : true = _)) rfl <| OM (t := 13) rfl (Vb (rfl : true = _)) rfl <| OM (t := 13) rfl (Vb (rfl : true = _)) rfl <| zaB (t := 16) rfl rfl <| zaB (t := 16) rfl rfl <| OM (t := 13) rfl (Vb (rfl : true = _)) rfl <| CN (zap (u := .bool _) (Vb (rfl : true = _)) rfl ?_)
  refine AB rfl <| NL <| zah Tryz.func169 rfl (TP (v := .bool _) rfl) <| ⟨Vb ?_, hst.pure⟩
  unfold zcY
  first | (rw [decide_eq_decide]; omega) | exact (Df (by omega)).symm | exact (Dt (by omega)).symm
 have hdb : ¬ (48 ≤ c.toNat ∧ c.toNat ≤ 57) := of_decide_eq_false (p := 48 ≤ c.toNat ∧ c.toNat ≤ 57) g1
 refine TK (t := 5) rfl (Vb g1) <| zad (v := .int .u8 _) rfl <| TK (t := 5) rfl (Vb g1) <| zbo rfl rfl <| TK (t := 5) rfl (Vb g1) <| zad (v := .bool _) rfl <| zan (d := 8) rfl (fun g2 => ?_) (fun g2 => ?_)
 ·refine TK (t := 8) rfl (Vb (Dt g2)) <| zad (v := .int .u8 _) rfl <| TK (t := 8) rfl (Vb (Dt g2)) <| zbI rfl rfl <| TK (t := 5) rfl (Vb g1) <| zap (u := .bool _) (Vb (Dt g2)) rfl <| CN <| zaq (u := .bool _) (Vb g1) rfl <| MB rfl <| zan (d := 13) rfl (fun g3 => ?_) (fun g3 => ?_)
  ·refine OM (t := 13) rfl (Vb (Dt g3)) rfl <| OM (t := 13) rfl (Vb (Dt g3)) rfl <| OM (t := 13) rfl (Vb (Dt g3)) rfl <| zaB (t := 16) rfl rfl <| zaB (t := 16) rfl rfl <| OM (t := 13) rfl (Vb (Dt g3)) rfl <| CN <| zap (u := .bool _) (Vb (Dt g3)) rfl <| AB rfl <| NL <| zah Tryz.func169 rfl (TP (v := .bool _) rfl) <| ⟨Vb ?_, hst.pure⟩
   unfold zcY
   first | (rw [decide_eq_decide]; omega) | exact (Df (by omega)).symm | exact (Dt (by omega)).symm
  refine TK (t := 13) rfl (Vb (Df g3)) <| zad (v := .int .u8 _) rfl <| TK (t := 13) rfl (Vb (Df g3)) <| zbo rfl rfl <| TK (t := 13) rfl (Vb (Df g3)) <| zad (v := .bool _) rfl <| zan (d := 16) rfl (fun g4 => ?_) (fun g4 => ?_)
  ·refine TK (t := 16) rfl (Vb (Dt g4)) <| zad (v := .int .u8 _) rfl <| TK (t := 16) rfl (Vb (Dt g4)) <| zbI rfl rfl <| TK (t := 13) rfl (Vb (Df g3)) <| zap (u := .bool _) (Vb (Dt g4)) rfl <| CN <| zaq (u := .bool _) (Vb (Df g3)) rfl <| AB rfl <| NL <| zah Tryz.func169 rfl (TP (v := .bool _) rfl) <| ⟨Vb ?_, hst.pure⟩
   unfold zcY
   first | (rw [decide_eq_decide]; omega) | exact (Df (by omega)).symm | exact (Dt (by omega)).symm
  refine OM (t := 16) rfl (Vb (Df g4)) rfl <| OM (t := 16) rfl (Vb (Df g4)) rfl <| TK (t := 13) rfl (Vb (Df g3)) <| zaq (u := .bool _) (Vb (Df g4)) rfl <| CN <| zaq (u := .bool _) (Vb (Df g3)) rfl <| AB rfl <| NL <| zah Tryz.func169 rfl (TP (v := .bool _) rfl) <| ⟨Vb ?_, hst.pure⟩
  unfold zcY
  first | (rw [decide_eq_decide]; omega) | exact (Df (by omega)).symm | exact (Dt (by omega)).symm
 refine OM (t := 8) rfl (Vb (Df g2)) rfl <| OM (t := 8) rfl (Vb (Df g2)) rfl <| TK (t := 5) rfl (Vb g1) <| zaq (u := .bool _) (Vb (Df g2)) rfl <| CN <| zaq (u := .bool _) (Vb g1) rfl <| MB rfl <| TK (t := 13) rfl (Vb (rfl : false = _)) <| zad (v := .int .u8 _) rfl <| TK (t := 13) rfl (Vb (rfl : false = _)) <| zbo rfl rfl <| TK (t := 13) rfl (Vb (rfl : false = _)) <| zad (v := .bool _) rfl <| zan (d := 16) rfl (fun g5 => ?_) (fun g5 => ?_)
 ·refine TK (t := 16) rfl (Vb (Dt g5)) <| zad (v := .int .u8 _) rfl <| TK (t := 16) rfl (Vb (Dt g5)) <| zbI rfl rfl <| TK (t := 13) rfl (Vb (rfl : false = _)) <| zap (u := .bool _) (Vb (Dt g5)) rfl <| CN <| zaq (u := .bool _) (Vb (rfl : false = _)) rfl <| AB rfl <| NL <| zah Tryz.func169 rfl (TP (v := .bool _) rfl) <| ⟨Vb ?_, hst.pure⟩
  unfold zcY
  first | (rw [decide_eq_decide]; omega) | exact (Df (by omega)).symm | exact (Dt (by omega)).symm
 refine OM (t := 16) rfl (Vb (Df g5)) rfl <| OM (t := 16) rfl (Vb (Df g5)) rfl <| TK (t := 13) rfl (Vb (rfl : false = _)) <| zaq (u := .bool _) (Vb (Df g5)) rfl <| CN <| zaq (u := .bool _) (Vb (rfl : false = _)) rfl <| AB rfl <| NL <| zah Tryz.func169 rfl (TP (v := .bool _) rfl) <| ⟨Vb ?_, hst.pure⟩
 unfold zcY
 first | (rw [decide_eq_decide]; omega) | exact (Df (by omega)).symm | exact (Dt (by omega)).symm
theorem zet (c : UInt8) (hh : zcY c = true) (w : World) : Ret Tryz.prog 170 #[.int .u8 (c.toNat : Int)] w (fun v w' => v = .int .u64 (zdO c : Int) ∧ St w NoM [] [] w') := by
 refine zav (args := [.int .u8 (c.toNat : Int)]) Tryz.func170 rfl rfl rfl ?_
 have hst := St.init w
 have hhb := (zd5 hh).1
 refine SR <| CN <| Op1.assign (v := .int .u64 _) rfl <| NL <| SQ <| SR <| MC rfl <| CN <| Op1.call1 (v1 := .int .u8 _) zlI rfl rfl <| Ret.det (zeu _ _) hst fun w hst => NL <| zaA rfl (fun g1 => ?_) (fun g1 => ?_)
 ·have hdb := zhk g1
  refine SR <| MC rfl <| CN (zbx rfl rfl rfl Wu8 ?_)
  first | refine CN (zaY ty5 zbF rfl zdV ?_) | refine CN (za8 ty5 zbF rfl ?_)
  refine CN <| Op1.assign (v := .int .u64 _) rfl <| NL <| zah Tryz.func170 rfl (TP (v := .int .u64 _) rfl) <| ⟨congrArg (Value.int .u64) ?_, hst.pure⟩
  unfold zdO
  split
  ·omega
  ·split <;> omega
 have hdb : ¬ (48 ≤ c.toNat ∧ c.toNat ≤ 57) := of_decide_eq_false (p := 48 ≤ c.toNat ∧ c.toNat ≤ 57) g1
 refine zaf <| SQ <| SR <| MC rfl <| CN <| zbo rfl rfl <| NL <| zab rfl (fun g2 => ?_) (fun g2 => ?_)
 ·refine SR <| MC rfl <| CN (zbx rfl rfl rfl Wu8 ?_)
  first | refine CN (zaY ty5 zbF rfl zdV ?_) | refine CN (za8 ty5 zbF rfl ?_)
  refine CN <| zas rfl rfl rfl zdV <| CN <| Op1.assign (v := .int .u64 _) rfl <| NL <| zah Tryz.func170 rfl (TP (v := .int .u64 _) rfl) <| ⟨congrArg (Value.int .u64) ?_, hst.pure⟩
  unfold zdO
  split
  ·omega
  ·split <;> omega
 refine zaf <| SR <| MC rfl <| CN (zbx rfl rfl rfl Wu8 ?_)
 first | refine CN (zaY ty5 zbF rfl zdV ?_) | refine CN (za8 ty5 zbF rfl ?_)
 refine CN <| zas rfl rfl rfl zdV <| CN <| Op1.assign (v := .int .u64 _) rfl <| NL <| zah Tryz.func170 rfl (TP (v := .int .u64 _) rfl) <| ⟨congrArg (Value.int .u64) ?_, hst.pure⟩
 unfold zdO
 split
 ·omega
 ·split <;> omega
end Go.SK
namespace Go.SK
open Go Go.Proofs
theorem zul : zaN Tryz.prog 162 := ⟨Tryz.f162, _, Tryz.func162, Kr, rfl⟩
end Go.SK
namespace Go.SK
open Go Go.Proofs
open Go.RowKit
theorem zil (s : Tx) (x : Int) (a : Nat) (hx : x = a) (ha : a ≤ s.length) (w : World) (hl : s.length ≤ 140737488355328) : Ret Tryz.prog 163 #[str s, .int .i64 x] w (fun v w' => v = str (zch (s.drop a)) ∧ St w NoM [] [] w') := by
 refine zav (args := [str s, .int .i64 x]) Tryz.func163 rfl rfl rfl ?_
 have hst := St.init w
 subst hx
 refine SR <| AS rfl <| NSR <| MI rfl <| AI rfl <| NL <| SQ <| zao <| zaV <| zaU [(0, str _), (1, .int .i64 _)] E2 (fun (qq : Nat) => [(5, .int .i64 (qq : Int))]) (fun (qq : Nat) => []) (fun (qq : Nat) => a ≤ qq ∧ qq ≤ s.length ∧ (zch (s.drop a)).length + a = qq + (zch (s.drop qq)).length) (fun (qq : Nat) => s.length - qq) (a) hst ⟨Nat.le_refl _, ha, Nat.add_comm _ _⟩ ⟨rfl, trivial⟩ ?_
 intro i f w hst hJ ih1
 replace hst : St _ _ ([] ++ []) _ _ := hst
 replace hJ : a ≤ i ∧ i ≤ s.length ∧ (zch (s.drop a)).length + a = i + (zch (s.drop i)).length := hJ
 refine za2 (sl := [(5, .int .i64 (i : Int))]) ⟨rfl, trivial⟩ ?_
 have hidx : (s.getD ((i : Int).toNat) 0).toNat = (s.getD i 0).toNat := rfl
 refine SQ <| SR <| MI rfl <| MS rfl <| CN <| zaL (rest := []) ty9 rfl <| CN <| zaS rfl rfl <| MB rfl <| zan (d := 11) rfl (fun g2 => ?_) (fun g2 => ?_)
 ·refine TK (t := 11) rfl (Vb (Dt g2)) <| zad (v := str _) rfl <| TK (t := 11) rfl (Vb (Dt g2)) <| zad (v := .int .i64 _) rfl <| TK (t := 11) rfl (Vb (Dt g2)) <| zaH ty9 rfl rfl Om Om <| TK (t := 11) rfl (Vb (Dt g2)) (Op1.call1 (v1 := .int .u8 _) zul rfl rfl ((zhy _ _).mono fun v w hp => ?_))
  obtain ⟨rfl, hp⟩ := hp
  replace hst := hst.keepc hp
  clear hp
  refine TK (t := 11) rfl (Vb (Dt g2)) <| zad (v := .bool _) rfl <| zbH (d := 16) rfl (fun g3 => ?_) (fun g3 => ?_)
  ·refine OM (t := 16) rfl (Vb g3) rfl <| OM (t := 16) rfl (Vb g3) rfl <| OM (t := 16) rfl (Vb g3) rfl <| OM (t := 16) rfl (Vb g3) rfl <| TK (t := 11) rfl (Vb (Dt g2)) <| zap (u := .bool _) (Vb g3) rfl <| CN <| zap (u := .bool _) (Vb (Dt g2)) rfl <| NL <| zax (Vb (rfl : true = _)) <| zaf <| zao <| RG <| MI rfl <| CN <| zas rfl rfl rfl zbe <| AI rfl <| NL ?_
   refine zam <| zay ?_
   have hs1 := zhO (s := s) (i := i) Om (zxB g3)
   exact ih1 (i + 1) _ w Om hst (⟨by omega, by omega, by omega⟩) E2 ⟨(Vi Om), trivial⟩
  refine TK (t := 16) rfl (Vb g3) <| zad (v := str _) rfl <| TK (t := 16) rfl (Vb g3) <| zad (v := .int .i64 _) rfl <| TK (t := 16) rfl (Vb g3) <| zaH ty9 rfl rfl Om Om <| TK (t := 16) rfl (Vb g3) (Op1.call1 (v1 := .int .u8 _) zlI rfl rfl ((zeu _ _).mono fun v w hp => ?_))
  obtain ⟨rfl, hp⟩ := hp
  replace hst := hst.keepc hp
  clear hp
  refine TK (t := 11) rfl (Vb (Dt g2)) <| zaq (u := .bool _) (Vb g3) rfl <| CN <| zap (u := .bool _) (Vb (Dt g2)) rfl <| NL <| zaA rfl (fun g4 => ?_) (fun g4 => ?_)
  ·refine zaf <| zao <| RG <| MI rfl <| CN <| zas rfl rfl rfl zbe <| AI rfl <| NL <| zam <| zay ?_
   have hs1 := zhO (s := s) (i := i) Om (run_d g4)
   exact ih1 (i + 1) _ w Om hst (⟨by omega, by omega, by omega⟩) E2 ⟨(Vi Om), trivial⟩
  refine zaJ (id := 0) rfl <| SR <| MS rfl <| MI rfl <| MI rfl <| CN <| zea ty9 rfl rfl rfl Om Om Om <| AS rfl <| NL <| zah Tryz.func163 rfl (TP (v := str _) rfl) ?_
  have hz : (zch (s.drop i)).length = 0 := zqF Om (run_no g3 g4)
  refine ⟨congrArg str ?_, hst.pure⟩
  exact zgm (s.drop a) Om
 refine OM (t := 11) rfl (Vb (Df g2)) rfl <| OM (t := 11) rfl (Vb (Df g2)) rfl <| OM (t := 11) rfl (Vb (Df g2)) rfl <| OM (t := 11) rfl (Vb (Df g2)) rfl <| OM (t := 11) rfl (Vb (Df g2)) rfl <| zaB (t := 16) rfl rfl <| zaB (t := 16) rfl rfl <| zaB (t := 16) rfl rfl <| zaB (t := 16) rfl rfl <| OM (t := 11) rfl (Vb (Df g2)) rfl <| CN <| zaq (u := .bool _) (Vb (Df g2)) rfl <| NL <| zat (Vb (rfl : false = _)) <| zaJ (id := 0) rfl <| SQ ?_
 refine RG <| MS rfl <| MI rfl <| MI rfl <| CN <| zea ty9 rfl rfl rfl Om Om Om <| AS rfl <| NL <| zah Tryz.func163 rfl (TP (v := str _) rfl) ?_
 have hz : (zch (s.drop i)).length = 0 := ztl Om
 refine ⟨congrArg str ?_, hst.pure⟩
 exact zgm (s.drop a) Om
theorem zfB (s : Tx) (w : World) (hl : s.length ≤ 140737488355328) : Ret Tryz.prog 120 #[str s] w (fun v w' => v = .tuple #[.int .u64 (plR s : Int), .bool (zbn s).isSome] ∧ St w NoM [] [] w') := by
 refine zav (args := [str s]) Tryz.func120 rfl rfl rfl ?_
 have hst := St.init w
 have hidx0 : (s.getD ((0 : Int).toNat) 0).toNat = (s.getD 0 0).toNat := rfl
 refine SR <| CN <| Op1.assign (v := .int .u64 _) rfl <| AB rfl <| NL <| SQ <| SR <| MS rfl <| CN <| zaL (rest := []) ty9 rfl <| CN <| zak rfl rfl <| MB rfl <| zan (d := 9) rfl (fun g1 => ?_) (fun g1 => ?_)
 ·refine OM (t := 9) rfl (Vb (Dt g1)) rfl <| OM (t := 9) rfl (Vb (Dt g1)) rfl <| OM (t := 9) rfl (Vb (Dt g1)) rfl <| CN <| zap (u := .bool _) (Vb (Dt g1)) rfl <| MB rfl <| OM (t := 14) rfl (Vb (rfl : true = _)) rfl <| OM (t := 14) rfl (Vb (rfl : true = _)) rfl <| OM (t := 14) rfl (Vb (rfl : true = _)) rfl <| OM (t := 14) rfl (Vb (rfl : true = _)) rfl <| zaB (t := 18) rfl rfl <| zaB (t := 18) rfl rfl <| zaB (t := 18) rfl rfl <| OM (t := 14) rfl (Vb (rfl : true = _)) rfl <| CN <| zap (u := .bool _) (Vb (rfl : true = _)) rfl <| NL ?_
  have hbad : ziP s := by unfold ziP; omega
  refine zax (Vb (rfl : true = _)) <| SR <| CN <| Op1.assign (v := .int .u64 _) rfl <| AB rfl <| NL <| zai Tryz.func120 rfl (TP (v := .int .u64 _) rfl) (TP (v := .bool _) rfl) ?_
  rw [(zfJ hbad).1, (zfJ hbad).2]
  exact ⟨rfl, hst.pure⟩
 refine TK (t := 9) rfl (Vb (Df g1)) <| zad (v := str _) rfl <| TK (t := 9) rfl (Vb (Df g1)) <| zaL (rest := []) ty9 rfl <| TK (t := 9) rfl (Vb (Df g1)) <| zbm rfl rfl <| CN <| zaq (u := .bool _) (Vb (Df g1)) rfl <| MB rfl <| zan (d := 14) rfl (fun g2 => ?_) (fun g2 => ?_)
 ·refine OM (t := 14) rfl (Vb (Dt g2)) rfl <| OM (t := 14) rfl (Vb (Dt g2)) rfl <| OM (t := 14) rfl (Vb (Dt g2)) rfl <| OM (t := 14) rfl (Vb (Dt g2)) rfl <| zaB (t := 18) rfl rfl <| zaB (t := 18) rfl rfl <| zaB (t := 18) rfl rfl <| OM (t := 14) rfl (Vb (Dt g2)) rfl <| CN <| zap (u := .bool _) (Vb (Dt g2)) rfl <| NL ?_
  have hbad : ziP s := by unfold ziP; omega
  refine zax (Vb (rfl : true = _)) <| SR <| CN <| Op1.assign (v := .int .u64 _) rfl <| AB rfl <| NL <| zai Tryz.func120 rfl (TP (v := .int .u64 _) rfl) (TP (v := .bool _) rfl) ?_
  rw [(zfJ hbad).1, (zfJ hbad).2]
  exact ⟨rfl, hst.pure⟩
 refine TK (t := 14) rfl (Vb (Df g2)) <| zad (v := str _) rfl <| TK (t := 14) rfl (Vb (Df g2)) <| zaL (rest := []) ty9 rfl <| TK (t := 14) rfl (Vb (Df g2)) <| zbm rfl rfl <| TK (t := 14) rfl (Vb (Df g2)) <| zad (v := .bool _) rfl <| zan (d := 18) rfl (fun g3 => ?_) (fun g3 => ?_)
 ·refine TK (t := 18) rfl (Vb (Dt g3)) <| zad (v := str _) rfl <| TK (t := 18) rfl (Vb (Dt g3)) <| zaH ty9 rfl rfl Om Om <| TK (t := 18) rfl (Vb (Dt g3)) <| zak rfl rfl <| TK (t := 14) rfl (Vb (Df g2)) <| zap (u := .bool _) (Vb (Dt g3)) rfl <| CN <| zaq (u := .bool _) (Vb (Df g2)) rfl <| NL <| zaj [(0, str _), (23, .bool _)] E2 fun f => zab rfl (fun g4 => ?_) (fun g4 => ?_)
  ·have hbad : ziP s := by unfold ziP; omega
   refine SR <| CN <| Op1.assign (v := .int .u64 _) rfl <| AB rfl <| NL <| zai Tryz.func120 rfl (TP (v := .int .u64 _) rfl) (TP (v := .bool _) rfl) ?_
   rw [(zfJ hbad).1, (zfJ hbad).2]
   exact ⟨rfl, hst.pure⟩
  have hgood : ¬ ziP s := by unfold ziP; omega
  refine zaf <| SR <| CN <| Op1.assign (v := .int .u64 _) rfl <| NL <| SQ <| SR <| AI rfl <| NL <| zao <| zaV <| zaU [(0, str _)] ⟨rfl, trivial⟩ (fun (qq : Nat × Nat) => [(4, .int .u64 (qq.2 : Int)), (5, .int .i64 (qq.1 : Int))]) (fun (qq : Nat × Nat) => []) (fun (qq : Nat × Nat) => qq.1 ≤ s.length ∧ qq.2 < 10 ^ qq.1 ∧ zcl s 0 = zcl (s.drop qq.1) qq.2) (fun (qq : Nat × Nat) => s.length - qq.1) ((0, 0)) hst ⟨Nat.zero_le _, by decide, rfl⟩ E2 ?_
  intro ⟨i, n⟩ f w hst hJ ih5
  replace hst : St _ _ ([] ++ []) _ _ := hst
  replace hJ : i ≤ s.length ∧ n < 10 ^ i ∧ zcl s 0 = zcl (s.drop i) n := hJ
  refine za2 (sl := [(4, .int .u64 (n : Int)), (5, .int .i64 (i : Int))]) E2 ?_
  have hidx : (s.getD ((i : Int).toNat) 0).toNat = (s.getD i 0).toNat := rfl
  have hlen : s.length ≤ 10 := by unfold ziP at hgood; omega
  refine SQ <| SR <| MI rfl <| MS rfl <| CN <| zaL (rest := []) ty9 rfl <| CN <| zaS rfl rfl <| NL <| zab rfl (fun g6 => ?_) (fun g6 => ?_)
  ·have hp10 := zqM (i := i) Om
   refine zaf <| SQ <| zao <| SQ <| SR <| MS rfl <| MI rfl <| CN <| zaH ty9 rfl rfl Om Om <| CN <| Op1.call1 (v1 := .int .u8 _) zlI rfl rfl <| Ret.det (zeu _ _) hst fun w hst => CN <| zaZ rfl <| NL <| zaA rfl (fun g7 => ?_) (fun g7 => ?_)
   ·have hnd : ¬ zdT (s.getD i 0) = true := zrY g7
    refine SR <| CN <| Op1.assign (v := .int .u64 _) rfl <| AB rfl <| NL <| zai Tryz.func120 rfl (TP (v := .int .u64 _) rfl) (TP (v := .bool _) rfl) ?_
    have hno : zcl s 0 = none := hJ.2.2.trans (zkq Om hnd)
    rw [(zfI hgood hno).1, (zfI hgood hno).2]
    exact ⟨rfl, hst.pure⟩
   have hyd : zdT (s.getD i 0) = true := zrZ g7
   have hdb := zhk hyd
   refine zaf <| RG <| CN <| zad (v := .int .u64 _) rfl <| CN <| zbP rfl rfl rfl zdV <| MS rfl <| MI rfl <| CN <| zaH ty9 rfl rfl Om Om <| CN (zbx rfl rfl rfl Wu8 ?_)
   first | refine CN (zaY ty5 zbF rfl zdV ?_) | refine CN (za8 ty5 zbF rfl ?_)
   refine CN <| zas rfl rfl rfl zdV <| CN <| Op1.assign (v := .int .u64 _) rfl <| NL <| zam <| RG <| MI rfl <| CN <| zas rfl rfl rfl zbe <| AI rfl <| NL <| zay ?_
   exact ih5 ((i + 1, 10 * n + ((s.getD i 0).toNat - 48))) _ w (by (try dsimp only); omega) hst (⟨by (try dsimp only); omega, by (try dsimp only); exact zlq hJ.2.1 (by omega), by (try dsimp only); rw [hJ.2.2, zkr (by omega) hyd]⟩) ⟨rfl, trivial⟩ ⟨(congrArg (Value.int .u64) (by (try dsimp only); omega)), (Vi (by (try dsimp only); omega)), trivial⟩
  refine zaJ (id := 0) rfl <| SR <| CN <| zad (v := .int .u64 _) rfl <| CN <| zad (v := .int .u64 _) rfl <| CN <| zaS rfl rfl <| CN <| Op1.assign (v := .int .u64 _) rfl <| AB rfl <| NL <| zai Tryz.func120 rfl (TP (v := .int .u64 _) rfl) (TP (v := .bool _) rfl) ?_
  have hsm : zcl s 0 = some n := hJ.2.2.trans (zmE Om)
  rw [(zgT hgood hsm).1, (zgT hgood hsm).2]
  refine ⟨congrArg (fun b => Value.tuple #[.int .u64 (n : Int), .bool b]) ?_, hst.pure⟩
  rw [decide_eq_decide]; omega
 refine OM (t := 18) rfl (Vb (Df g3)) rfl <| OM (t := 18) rfl (Vb (Df g3)) rfl <| OM (t := 18) rfl (Vb (Df g3)) rfl <| TK (t := 14) rfl (Vb (Df g2)) <| zaq (u := .bool _) (Vb (Df g3)) rfl <| CN <| zaq (u := .bool _) (Vb (Df g2)) rfl <| NL ?_
 have hgood : ¬ ziP s := by unfold ziP; omega
 refine zat (Vb (rfl : false = _)) <| zaf <| SR <| CN <| Op1.assign (v := .int .u64 _) rfl <| NL <| SQ <| SR <| AI rfl <| NL <| zao <| zaj [(0, str _), (4, .int .u64 _), (5, .int .i64 _)] E3 fun f => zaV <| zaU [(0, str _)] ⟨rfl, trivial⟩ (fun (qq : Nat × Nat) => [(4, .int .u64 (qq.2 : Int)), (5, .int .i64 (qq.1 : Int))]) (fun (qq : Nat × Nat) => []) (fun (qq : Nat × Nat) => qq.1 ≤ s.length ∧ qq.2 < 10 ^ qq.1 ∧ zcl s 0 = zcl (s.drop qq.1) qq.2) (fun (qq : Nat × Nat) => s.length - qq.1) ((0, 0)) hst ⟨Nat.zero_le _, by decide, rfl⟩ E2 ?_
 intro ⟨i, n⟩ f w hst hJ ih8
 replace hst : St _ _ ([] ++ []) _ _ := hst
 replace hJ : i ≤ s.length ∧ n < 10 ^ i ∧ zcl s 0 = zcl (s.drop i) n := hJ
 refine za2 (sl := [(4, .int .u64 (n : Int)), (5, .int .i64 (i : Int))]) E2 ?_
 have hidx : (s.getD ((i : Int).toNat) 0).toNat = (s.getD i 0).toNat := rfl
 have hlen : s.length ≤ 10 := by unfold ziP at hgood; omega
 refine SQ <| SR <| MI rfl <| MS rfl <| CN <| zaL (rest := []) ty9 rfl <| CN <| zaS rfl rfl <| NL <| zab rfl (fun g9 => ?_) (fun g9 => ?_)
 ·have hp10 := zqM (i := i) Om
  refine zaf <| SQ <| zao <| SQ <| SR <| MS rfl <| MI rfl <| CN <| zaH ty9 rfl rfl Om Om <| CN <| Op1.call1 (v1 := .int .u8 _) zlI rfl rfl <| Ret.det (zeu _ _) hst fun w hst => CN <| zaZ rfl <| NL <| zaA rfl (fun g10 => ?_) (fun g10 => ?_)
  ·have hnd : ¬ zdT (s.getD i 0) = true := zrY g10
   refine SR <| CN <| Op1.assign (v := .int .u64 _) rfl <| AB rfl <| NL <| zai Tryz.func120 rfl (TP (v := .int .u64 _) rfl) (TP (v := .bool _) rfl) ?_
   have hno : zcl s 0 = none := hJ.2.2.trans (zkq Om hnd)
   rw [(zfI hgood hno).1, (zfI hgood hno).2]
   exact ⟨rfl, hst.pure⟩
  have hyd : zdT (s.getD i 0) = true := zrZ g10
  have hdb := zhk hyd
  refine zaf <| RG <| CN <| zad (v := .int .u64 _) rfl <| CN <| zbP rfl rfl rfl zdV <| MS rfl <| MI rfl <| CN <| zaH ty9 rfl rfl Om Om <| CN (zbx rfl rfl rfl Wu8 ?_)
  first | refine CN (zaY ty5 zbF rfl zdV ?_) | refine CN (za8 ty5 zbF rfl ?_)
  refine CN <| zas rfl rfl rfl zdV <| CN <| Op1.assign (v := .int .u64 _) rfl <| NL <| zam <| RG <| MI rfl <| CN <| zas rfl rfl rfl zbe <| AI rfl <| NL <| zay ?_
  exact ih8 ((i + 1, 10 * n + ((s.getD i 0).toNat - 48))) _ w (by (try dsimp only); omega) hst (⟨by (try dsimp only); omega, by (try dsimp only); exact zlq hJ.2.1 (by omega), by (try dsimp only); rw [hJ.2.2, zkr (by omega) hyd]⟩) ⟨rfl, trivial⟩ ⟨(congrArg (Value.int .u64) (by (try dsimp only); omega)), (Vi (by (try dsimp only); omega)), trivial⟩
 refine zaJ (id := 0) rfl <| SR <| CN <| zad (v := .int .u64 _) rfl <| CN <| zad (v := .int .u64 _) rfl <| CN <| zaS rfl rfl <| CN <| Op1.assign (v := .int .u64 _) rfl <| AB rfl <| NL <| zai Tryz.func120 rfl (TP (v := .int .u64 _) rfl) (TP (v := .bool _) rfl) ?_
 have hsm : zcl s 0 = some n := hJ.2.2.trans (zmE Om)
 rw [(zgT hgood hsm).1, (zgT hgood hsm).2]
 refine ⟨congrArg (fun b => Value.tuple #[.int .u64 (n : Int), .bool b]) ?_, hst.pure⟩
 rw [decide_eq_decide]; omega
end Go.SK
namespace Go.SK
open Go Go.Proofs
theorem zok : zaN Tryz.prog 120 := ⟨Tryz.f120, _, Tryz.func120, Kr, rfl⟩
theorem zlH : zaN Tryz.prog 169 := ⟨Tryz.f169, _, Tryz.func169, Kr, rfl⟩
theorem zlG : zaN Tryz.prog 170 := ⟨Tryz.f170, _, Tryz.func170, Kr, rfl⟩
end Go.SK
namespace Go.SK
open Go Go.Proofs
open Go.RowKit
theorem zeM (s : Tx) (w : World) (hl : s.length ≤ 140737488355328) : Ret Tryz.prog 122 #[str s] w (fun v w' => v = .tuple #[.int .u32 (zba s).1, .int .i64 (zba s).2] ∧ St w NoM [] [] w') := by
 refine zav (args := [str s]) Tryz.func122 rfl rfl rfl ?_
 have hst := St.init w
 have hidx0 : (s.getD ((0 : Int).toNat) 0).toNat = (s.getD 0 0).toNat := rfl
 have hidx1 : (s.getD ((1 : Int).toNat) 0).toNat = (s.getD 1 0).toNat := rfl
 refine SR <| AU rfl <| AI rfl <| NSR <| MS rfl <| CN <| Op1.call1 (v1 := str _) zok rfl rfl <| Ret.det (zfB _ _ (by first | omega | (simp only [List.length_drop]; omega))) hst fun w hst => CN <| zad (v := .tuple #[.int .u64 _, .bool _]) rfl <| CN <| Ex (.int .u64 _) rfl rfl <| CN <| Ex (.bool _) rfl rfl <| CN <| Op1.assign (v := .int .u64 _) rfl <| AB rfl <| NL ?_
 refine SQ <| SR <| MB rfl <| NL <| zaA rfl (fun g1 => ?_) (fun g1 => ?_)
 ·obtain ⟨n0, hn0⟩ := zfy g1
  have hpr := zj3 hn0
  refine SR <| CN (zad (v := .int .u64 _) rfl ?_)
  first | refine CN (zaY zbF zbt rfl zkM ?_) | refine CN (za8 zbF zbt rfl ?_)
  refine AU rfl <| AI rfl <| NL <| zai Tryz.func122 rfl (TP (v := .int .u32 _) rfl) (TP (v := .int .i64 _) rfl) ?_
  rw [zfo hn0, hpr.1]
  exact ⟨rfl, hst.pure⟩
 have hpn := zh3 g1
 refine zaf <| SQ <| SR <| MS rfl <| CN <| zaL (rest := []) ty9 rfl <| CN <| zbm rfl rfl <| MB rfl <| zan (d := 18) rfl (fun g2 => ?_) (fun g2 => ?_)
 ·refine TK (t := 18) rfl (Vb (Dt g2)) <| zad (v := str _) rfl <| TK (t := 18) rfl (Vb (Dt g2)) <| zaH ty9 rfl rfl Om Om <| TK (t := 18) rfl (Vb (Dt g2)) <| zak rfl rfl <| CN <| zap (u := .bool _) (Vb (Dt g2)) rfl <| NL <| zab rfl (fun g3 => ?_) (fun g3 => ?_)
  ·refine SR <| MS rfl <| CN <| zcv ty9 rfl rfl (by omega) (by omega) <| CN <| Op1.call1 (v1 := str _) zok rfl rfl <| Ret.det (zfB _ _ (by first | omega | (simp only [List.length_drop]; omega))) hst fun w hst => CN <| zad (v := .tuple #[.int .u64 _, .bool _]) rfl <| CN <| Ex (.int .u64 _) rfl rfl <| CN <| Ex (.bool _) rfl rfl <| CN <| Op1.assign (v := .int .u64 _) rfl <| AB rfl <| NL <| zaj [(4, .int .u64 _), (5, .bool _)] E2 fun f => SQ <| SQ <| RG ?_
   refine MB rfl <| MB rfl <| zbH (d := 30) rfl (fun g4 => ?_) (fun g4 => ?_)
   ·obtain ⟨m, hm0⟩ := zfy g4
    have hm : zbn (s.drop 1) = some m := hm0
    have hpm := zj3 hm0
    have hpz : plR (s.drop ((1 : Int).toNat)) = m := hpm.1
    refine TK (t := 30) rfl (Vb g4) <| zad (v := .int .u64 _) rfl <| TK (t := 30) rfl (Vb g4) <| zbo rfl rfl <| CN <| zap (u := .bool _) (Vb g4) rfl <| MB rfl <| zan (d := 34) rfl (fun g5 => ?_) (fun g5 => ?_)
    ·refine TK (t := 34) rfl (Vb (Dt g5)) <| zad (v := .int .u64 _) rfl <| TK (t := 34) rfl (Vb (Dt g5)) <| zbI rfl rfl <| CN <| zap (u := .bool _) (Vb (Dt g5)) rfl <| NL <| zab rfl (fun g6 => ?_) (fun g6 => ?_)
     ·refine SR <| CN <| zad (v := .int .u64 _) rfl <| CN (zbx rfl rfl rfl zdV ?_)
      first | refine CN (zaY zbF zbt rfl zkM ?_) | refine CN (za8 zbF zbt rfl ?_)
      refine AU rfl <| AI rfl <| NL <| zai Tryz.func122 rfl (TP (v := .int .u32 _) rfl) (TP (v := .int .i64 _) rfl) ?_
      rw [zlv hpn (by omega) hm (by omega), show plR (s.drop ((1 : Int).toNat)) = m from hpm.1]
      exact ⟨rfl, hst.pure⟩
     refine zaf <| SR <| AU rfl <| AI rfl <| NL <| zai Tryz.func122 rfl (TP (v := .int .u32 _) rfl) (TP (v := .int .i64 _) rfl) ?_
     rw [zdt hpn (by omega) (fun n hn => by rw [hm] at hn; cases hn; omega)]
     exact ⟨rfl, hst.pure⟩
    refine OM (t := 34) rfl (Vb (Df g5)) rfl <| OM (t := 34) rfl (Vb (Df g5)) rfl <| CN <| zaq (u := .bool _) (Vb (Df g5)) rfl <| NL <| zat (Vb (rfl : false = _)) <| zaf <| SR <| AU rfl <| AI rfl <| NL <| zai Tryz.func122 rfl (TP (v := .int .u32 _) rfl) (TP (v := .int .i64 _) rfl) ?_
    rw [zdt hpn (by omega) (fun n hn => by rw [hm] at hn; cases hn; omega)]
    exact ⟨rfl, hst.pure⟩
   have hmn : zbn (s.drop 1) = none := zh3 g4
   refine OM (t := 30) rfl (Vb g4) rfl <| OM (t := 30) rfl (Vb g4) rfl <| CN <| zaq (u := .bool _) (Vb g4) rfl <| MB rfl <| OM (t := 34) rfl (Vb (rfl : false = _)) rfl <| OM (t := 34) rfl (Vb (rfl : false = _)) rfl <| CN <| zaq (u := .bool _) (Vb (rfl : false = _)) rfl <| NL <| zat (Vb (rfl : false = _)) <| zaf <| SR <| AU rfl <| AI rfl <| NL ?_
   refine zai Tryz.func122 rfl (TP (v := .int .u32 _) rfl) (TP (v := .int .i64 _) rfl) ?_
   rw [zdt hpn (by omega) (fun n hn => by rw [hmn] at hn; cases hn)]
   exact ⟨rfl, hst.pure⟩
  refine zaf <| SQ <| SR <| MS rfl <| CN <| zaL (rest := []) ty9 rfl <| CN <| zaS rfl rfl <| MB rfl <| zan (d := 44) rfl (fun g7 => ?_) (fun g7 => ?_)
  ·refine OM (t := 44) rfl (Vb (Dt g7)) rfl <| OM (t := 44) rfl (Vb (Dt g7)) rfl <| OM (t := 44) rfl (Vb (Dt g7)) rfl <| CN <| zap (u := .bool _) (Vb (Dt g7)) rfl <| MB rfl <| OM (t := 49) rfl (Vb (rfl : true = _)) rfl <| OM (t := 49) rfl (Vb (rfl : true = _)) rfl <| OM (t := 49) rfl (Vb (rfl : true = _)) rfl <| CN <| zap (u := .bool _) (Vb (rfl : true = _)) rfl <| MB rfl <| OM (t := 54) rfl (Vb (rfl : true = _)) rfl <| OM (t := 54) rfl (Vb (rfl : true = _)) rfl <| OM (t := 54) rfl (Vb (rfl : true = _)) rfl <| CN <| zap (u := .bool _) (Vb (rfl : true = _)) rfl <| NL ?_
   refine zaj [(0, str _), (58, .bool _)] E2 fun f => zax (Vb (rfl : true = _)) <| SR <| AU rfl <| AI rfl <| NL <| zai Tryz.func122 rfl (TP (v := .int .u32 _) rfl) (TP (v := .int .i64 _) rfl) ?_
   rw [zdc hpn (by omega) (by omega)]
   exact ⟨rfl, hst.pure⟩
  refine TK (t := 44) rfl (Vb (Df g7)) <| zad (v := str _) rfl <| TK (t := 44) rfl (Vb (Df g7)) <| zaL (rest := []) ty9 rfl <| TK (t := 44) rfl (Vb (Df g7)) <| zbm rfl rfl <| CN <| zaq (u := .bool _) (Vb (Df g7)) rfl <| MB rfl <| zan (d := 49) rfl (fun g8 => ?_) (fun g8 => ?_)
  ·refine OM (t := 49) rfl (Vb (Dt g8)) rfl <| OM (t := 49) rfl (Vb (Dt g8)) rfl <| OM (t := 49) rfl (Vb (Dt g8)) rfl <| CN <| zap (u := .bool _) (Vb (Dt g8)) rfl <| MB rfl <| OM (t := 54) rfl (Vb (rfl : true = _)) rfl <| OM (t := 54) rfl (Vb (rfl : true = _)) rfl <| OM (t := 54) rfl (Vb (rfl : true = _)) rfl <| CN <| zap (u := .bool _) (Vb (rfl : true = _)) rfl <| NL <| zaj [(0, str _), (58, .bool _)] E2 fun f => zax (Vb (rfl : true = _)) <| SR <| AU rfl ?_
   refine AI rfl <| NL <| zai Tryz.func122 rfl (TP (v := .int .u32 _) rfl) (TP (v := .int .i64 _) rfl) ?_
   rw [zdc hpn (by omega) (by omega)]
   exact ⟨rfl, hst.pure⟩
  refine TK (t := 49) rfl (Vb (Df g8)) <| zad (v := str _) rfl <| TK (t := 49) rfl (Vb (Df g8)) <| zaH ty9 rfl rfl Om Om <| TK (t := 49) rfl (Vb (Df g8)) <| zaW rfl rfl <| CN <| zaq (u := .bool _) (Vb (Df g8)) rfl <| MB rfl <| zan (d := 54) rfl (fun g9 => ?_) (fun g9 => ?_)
  ·refine OM (t := 54) rfl (Vb (Dt g9)) rfl <| OM (t := 54) rfl (Vb (Dt g9)) rfl <| OM (t := 54) rfl (Vb (Dt g9)) rfl <| CN <| zap (u := .bool _) (Vb (Dt g9)) rfl <| NL <| zaj [(0, str _), (58, .bool _)] E2 fun f => zax (Vb (rfl : true = _)) <| SR <| AU rfl <| AI rfl <| NL <| zai Tryz.func122 rfl (TP (v := .int .u32 _) rfl) (TP (v := .int .i64 _) rfl) ?_
   rw [zdc hpn (by omega) (by omega)]
   exact ⟨rfl, hst.pure⟩
  refine TK (t := 54) rfl (Vb (Df g9)) <| zad (v := str _) rfl <| TK (t := 54) rfl (Vb (Df g9)) <| zaH ty9 rfl rfl Om Om <| TK (t := 54) rfl (Vb (Df g9)) <| zaW rfl rfl <| CN <| zaq (u := .bool _) (Vb (Df g9)) rfl <| NL <| zaj [(0, str _), (58, .bool _)] E2 fun f => zab rfl (fun g10 => ?_) (fun g10 => ?_)
  ·refine SR <| AU rfl <| AI rfl <| NL <| zai Tryz.func122 rfl (TP (v := .int .u32 _) rfl) (TP (v := .int .i64 _) rfl) ?_
   rw [zdc hpn (by omega) (by omega)]
   exact ⟨rfl, hst.pure⟩
  refine zaf <| SR <| CN <| Op1.assign (v := .int .u64 _) rfl <| NL <| SQ <| SR <| AI rfl <| NL <| zao <| zaV <| zaU [(0, str _)] ⟨rfl, trivial⟩ (fun (qq : Nat × Nat) => [(4, .int .u64 (qq.2 : Int)), (6, .int .i64 ((qq.1 + 2 : Nat) : Int))]) (fun (qq : Nat × Nat) => []) (fun (qq : Nat × Nat) => qq.1 + 2 ≤ s.length ∧ qq.2 < 16 ^ qq.1 ∧ zcJ (s.drop 2) 0 = zcJ (s.drop (qq.1 + 2)) qq.2) (fun (qq : Nat × Nat) => s.length - qq.1) ((0, 0)) hst ⟨by (try dsimp only); omega, by decide, rfl⟩ E2 ?_
  intro ⟨k, n⟩ f w hst hJ ih11
  replace hst : St _ _ ([] ++ []) _ _ := hst
  replace hJ : k + 2 ≤ s.length ∧ n < 16 ^ k ∧ zcJ (s.drop 2) 0 = zcJ (s.drop (k + 2)) n := hJ
  refine za2 (sl := [(4, .int .u64 (n : Int)), (6, .int .i64 ((k + 2 : Nat) : Int))]) E2 ?_
  have hidx : (s.getD ((((k + 2 : Nat) : Int)).toNat) 0).toNat = (s.getD (k + 2) 0).toNat := rfl
  have hidw : zdO (s.getD ((((k + 2 : Nat) : Int)).toNat) 0) = zdO (s.getD (k + 2) 0) := rfl
  refine SQ <| SR <| MI rfl <| MS rfl <| CN <| zaL (rest := []) ty9 rfl <| CN <| zaS rfl rfl <| NL <| zab rfl (fun g12 => ?_) (fun g12 => ?_)
  ·have hp16 := zmk (i := k) Om
   refine zaf <| SQ <| zao <| SQ <| SR <| MS rfl <| MI rfl <| CN <| zaH ty9 rfl rfl Om Om <| CN <| Op1.call1 (v1 := .int .u8 _) zlH rfl rfl <| Ret.det (zg7 _ _) hst fun w hst => CN <| zaZ rfl <| NL <| zaA rfl (fun g13 => ?_) (fun g13 => ?_)
   ·have hnd : ¬ zcY (s.getD (k + 2) 0) = true := zrY g13
    refine SR <| AU rfl <| AI rfl <| NL <| zai Tryz.func122 rfl (TP (v := .int .u32 _) rfl) (TP (v := .int .i64 _) rfl) ?_
    rw [zeC hpn (by omega) (by omega) (hJ.2.2.trans (zct (by omega) hnd))]
    exact ⟨rfl, hst.pure⟩
   have hyd : zcY (s.getD (k + 2) 0) = true := zrZ g13
   have hdb := (zd5 hyd).2
   refine zaf <| RG <| CN <| zad (v := .int .u64 _) rfl <| CN <| zbP rfl rfl rfl zdV <| MS rfl <| MI rfl <| CN <| zaH ty9 rfl rfl Om Om <| CN <| Op1.call1 (v1 := .int .u8 _) zlG rfl rfl <| Ret.det (zet _ hyd _) hst fun w hst => CN <| zas rfl rfl rfl zdV <| CN <| Op1.assign (v := .int .u64 _) rfl <| NL <| zam <| RG <| MI rfl <| CN (zas rfl rfl rfl zbe ?_)
   refine AI rfl <| NL <| zay ?_
   exact ih11 ((k + 1, 16 * n + zdO (s.getD (k + 2) 0))) _ w (by (try dsimp only); omega) hst (⟨by (try dsimp only); omega, by (try dsimp only); exact zc5 hJ.2.1 (by omega), by (try dsimp only); rw [hJ.2.2, zd4 (by omega) hyd]⟩) ⟨rfl, trivial⟩ ⟨(congrArg (Value.int .u64) (by (try dsimp only); omega)), (Vi (by (try dsimp only); omega)), trivial⟩
  have hp16 := zj2 (i := k) Om
  refine zaJ (id := 0) rfl <| SR <| CN (zad (v := .int .u64 _) rfl ?_)
  first | refine CN (zaY zbF zbt rfl zkM ?_) | refine CN (za8 zbF zbt rfl ?_)
  refine AU rfl <| AI rfl <| NL <| zai Tryz.func122 rfl (TP (v := .int .u32 _) rfl) (TP (v := .int .i64 _) rfl) ?_
  rw [zjn hpn (by omega) (by omega) (hJ.2.2.trans (zmt (by omega)))]
  exact ⟨rfl, hst.pure⟩
 refine OM (t := 18) rfl (Vb (Df g2)) rfl <| OM (t := 18) rfl (Vb (Df g2)) rfl <| OM (t := 18) rfl (Vb (Df g2)) rfl <| CN <| zaq (u := .bool _) (Vb (Df g2)) rfl <| NL <| zat (Vb (rfl : false = _)) <| zaf <| SQ <| SR <| MS rfl <| CN <| zaL (rest := []) ty9 rfl <| CN <| zaS rfl rfl <| MB rfl <| zan (d := 44) rfl (fun g14 => ?_) (fun g14 => ?_)
 ·refine OM (t := 44) rfl (Vb (Dt g14)) rfl <| OM (t := 44) rfl (Vb (Dt g14)) rfl <| OM (t := 44) rfl (Vb (Dt g14)) rfl <| CN <| zap (u := .bool _) (Vb (Dt g14)) rfl <| MB rfl <| OM (t := 49) rfl (Vb (rfl : true = _)) rfl <| OM (t := 49) rfl (Vb (rfl : true = _)) rfl <| OM (t := 49) rfl (Vb (rfl : true = _)) rfl <| CN <| zap (u := .bool _) (Vb (rfl : true = _)) rfl <| MB rfl <| OM (t := 54) rfl (Vb (rfl : true = _)) rfl <| OM (t := 54) rfl (Vb (rfl : true = _)) rfl <| OM (t := 54) rfl (Vb (rfl : true = _)) rfl <| CN <| zap (u := .bool _) (Vb (rfl : true = _)) rfl <| NL ?_
  refine zaj [(0, str _), (58, .bool _)] E2 fun f => zax (Vb (rfl : true = _)) <| SR <| AU rfl <| AI rfl <| NL <| zai Tryz.func122 rfl (TP (v := .int .u32 _) rfl) (TP (v := .int .i64 _) rfl) ?_
  rw [zdc hpn (by omega) (by omega)]
  exact ⟨rfl, hst.pure⟩
 refine TK (t := 44) rfl (Vb (Df g14)) <| zad (v := str _) rfl <| TK (t := 44) rfl (Vb (Df g14)) <| zaL (rest := []) ty9 rfl <| TK (t := 44) rfl (Vb (Df g14)) <| zbm rfl rfl <| CN <| zaq (u := .bool _) (Vb (Df g14)) rfl <| MB rfl <| zan (d := 49) rfl (fun g15 => ?_) (fun g15 => ?_)
 ·refine OM (t := 49) rfl (Vb (Dt g15)) rfl <| OM (t := 49) rfl (Vb (Dt g15)) rfl <| OM (t := 49) rfl (Vb (Dt g15)) rfl <| CN <| zap (u := .bool _) (Vb (Dt g15)) rfl <| MB rfl <| OM (t := 54) rfl (Vb (rfl : true = _)) rfl <| OM (t := 54) rfl (Vb (rfl : true = _)) rfl <| OM (t := 54) rfl (Vb (rfl : true = _)) rfl <| CN <| zap (u := .bool _) (Vb (rfl : true = _)) rfl <| NL <| zaj [(0, str _), (58, .bool _)] E2 fun f => zax (Vb (rfl : true = _)) <| SR <| AU rfl ?_
  refine AI rfl <| NL <| zai Tryz.func122 rfl (TP (v := .int .u32 _) rfl) (TP (v := .int .i64 _) rfl) ?_
  rw [zdc hpn (by omega) (by omega)]
  exact ⟨rfl, hst.pure⟩
 refine TK (t := 49) rfl (Vb (Df g15)) <| zad (v := str _) rfl <| TK (t := 49) rfl (Vb (Df g15)) <| zaH ty9 rfl rfl Om Om <| TK (t := 49) rfl (Vb (Df g15)) <| zaW rfl rfl <| CN <| zaq (u := .bool _) (Vb (Df g15)) rfl <| MB rfl <| zan (d := 54) rfl (fun g16 => ?_) (fun g16 => ?_)
 ·refine OM (t := 54) rfl (Vb (Dt g16)) rfl <| OM (t := 54) rfl (Vb (Dt g16)) rfl <| OM (t := 54) rfl (Vb (Dt g16)) rfl <| CN <| zap (u := .bool _) (Vb (Dt g16)) rfl <| NL <| zaj [(0, str _), (58, .bool _)] E2 fun f => zax (Vb (rfl : true = _)) <| SR <| AU rfl <| AI rfl <| NL <| zai Tryz.func122 rfl (TP (v := .int .u32 _) rfl) (TP (v := .int .i64 _) rfl) ?_
  rw [zdc hpn (by omega) (by omega)]
  exact ⟨rfl, hst.pure⟩
 refine TK (t := 54) rfl (Vb (Df g16)) <| zad (v := str _) rfl <| TK (t := 54) rfl (Vb (Df g16)) <| zaH ty9 rfl rfl Om Om <| TK (t := 54) rfl (Vb (Df g16)) <| zaW rfl rfl <| CN <| zaq (u := .bool _) (Vb (Df g16)) rfl <| NL <| zaj [(0, str _), (58, .bool _)] E2 fun f => zab rfl (fun g17 => ?_) (fun g17 => ?_)
 ·refine SR <| AU rfl <| AI rfl <| NL <| zai Tryz.func122 rfl (TP (v := .int .u32 _) rfl) (TP (v := .int .i64 _) rfl) ?_
  rw [zdc hpn (by omega) (by omega)]
  exact ⟨rfl, hst.pure⟩
 refine zaf <| SR <| CN <| Op1.assign (v := .int .u64 _) rfl <| NL <| SQ <| SR <| AI rfl <| NL <| zao <| zaV <| zaU [(0, str _)] ⟨rfl, trivial⟩ (fun (qq : Nat × Nat) => [(4, .int .u64 (qq.2 : Int)), (6, .int .i64 ((qq.1 + 2 : Nat) : Int))]) (fun (qq : Nat × Nat) => []) (fun (qq : Nat × Nat) => qq.1 + 2 ≤ s.length ∧ qq.2 < 16 ^ qq.1 ∧ zcJ (s.drop 2) 0 = zcJ (s.drop (qq.1 + 2)) qq.2) (fun (qq : Nat × Nat) => s.length - qq.1) ((0, 0)) hst ⟨by (try dsimp only); omega, by decide, rfl⟩ E2 ?_
 intro ⟨k, n⟩ f w hst hJ ih18
 replace hst : St _ _ ([] ++ []) _ _ := hst
 replace hJ : k + 2 ≤ s.length ∧ n < 16 ^ k ∧ zcJ (s.drop 2) 0 = zcJ (s.drop (k + 2)) n := hJ
 refine za2 (sl := [(4, .int .u64 (n : Int)), (6, .int .i64 ((k + 2 : Nat) : Int))]) E2 ?_
 have hidx : (s.getD ((((k + 2 : Nat) : Int)).toNat) 0).toNat = (s.getD (k + 2) 0).toNat := rfl
 have hidw : zdO (s.getD ((((k + 2 : Nat) : Int)).toNat) 0) = zdO (s.getD (k + 2) 0) := rfl
 refine SQ <| SR <| MI rfl <| MS rfl <| CN <| zaL (rest := []) ty9 rfl <| CN <| zaS rfl rfl <| NL <| zab rfl (fun g19 => ?_) (fun g19 => ?_)
 ·have hp16 := zmk (i := k) Om
  refine zaf <| SQ <| zao <| SQ <| SR <| MS rfl <| MI rfl <| CN <| zaH ty9 rfl rfl Om Om <| CN <| Op1.call1 (v1 := .int .u8 _) zlH rfl rfl <| Ret.det (zg7 _ _) hst fun w hst => CN <| zaZ rfl <| NL <| zaA rfl (fun g20 => ?_) (fun g20 => ?_)
  ·have hnd : ¬ zcY (s.getD (k + 2) 0) = true := zrY g20
   refine SR <| AU rfl <| AI rfl <| NL <| zai Tryz.func122 rfl (TP (v := .int .u32 _) rfl) (TP (v := .int .i64 _) rfl) ?_
   rw [zeC hpn (by omega) (by omega) (hJ.2.2.trans (zct (by omega) hnd))]
   exact ⟨rfl, hst.pure⟩
  have hyd : zcY (s.getD (k + 2) 0) = true := zrZ g20
  have hdb := (zd5 hyd).2
  refine zaf <| RG <| CN <| zad (v := .int .u64 _) rfl <| CN <| zbP rfl rfl rfl zdV <| MS rfl <| MI rfl <| CN <| zaH ty9 rfl rfl Om Om <| CN <| Op1.call1 (v1 := .int .u8 _) zlG rfl rfl <| Ret.det (zet _ hyd _) hst fun w hst => CN <| zas rfl rfl rfl zdV <| CN <| Op1.assign (v := .int .u64 _) rfl <| NL <| zam <| RG <| MI rfl <| CN (zas rfl rfl rfl zbe ?_)
  refine AI rfl <| NL <| zay ?_
  exact ih18 ((k + 1, 16 * n + zdO (s.getD (k + 2) 0))) _ w (by (try dsimp only); omega) hst (⟨by (try dsimp only); omega, by (try dsimp only); exact zc5 hJ.2.1 (by omega), by (try dsimp only); rw [hJ.2.2, zd4 (by omega) hyd]⟩) ⟨rfl, trivial⟩ ⟨(congrArg (Value.int .u64) (by (try dsimp only); omega)), (Vi (by (try dsimp only); omega)), trivial⟩
 have hp16 := zj2 (i := k) Om
 refine zaJ (id := 0) rfl <| SR <| CN (zad (v := .int .u64 _) rfl ?_)
 first | refine CN (zaY zbF zbt rfl zkM ?_) | refine CN (za8 zbF zbt rfl ?_)
 refine AU rfl <| AI rfl <| NL <| zai Tryz.func122 rfl (TP (v := .int .u32 _) rfl) (TP (v := .int .i64 _) rfl) ?_
 rw [zjn hpn (by omega) (by omega) (hJ.2.2.trans (zmt (by omega)))]
 exact ⟨rfl, hst.pure⟩
end Go.SK
namespace Go.SK
open Go Go.Proofs
theorem zoi : zaN Tryz.prog 163 := ⟨Tryz.f163, _, Tryz.func163, Kr, rfl⟩
theorem zoj : zaN Tryz.prog 122 := ⟨Tryz.f122, _, Tryz.func122, Kr, rfl⟩
end Go.SK
namespace Go.SK
open Go Go.Proofs
theorem za4 : zaN Tryz.prog 147 := ⟨Tryz.f147, _, Tryz.func147, Kr, rfl⟩
end Go.SK
namespace Go.SK
open Go Go.Proofs
open Go.RowKit
theorem zaF (op : Int) (name : zdD) (t r : Bool) (fixed rest : zdD) (most part : Int) (w : World) : Ret Tryz.prog 147 #[.int .u16 op, str name, .bool t, .bool r, str fixed, str rest, .int .i64 most, .int .u8 part] w (fun v w' => v = .agg #[.int .u16 op, str name, .bool t, .bool r, str fixed, str rest, .int .i64 most, .int .u8 part] ∧ St w NoM [] [] w') := by
 refine zav (args := [.int .u16 op, str name, .bool t, .bool r, str fixed, str rest, .int .i64 most, .int .u8 part]) Tryz.func147 rfl rfl rfl ?_
 have hst := St.init w
 refine SR <| CN <| Op1.alloc hst zaM fun w b16 hst => NSR <| MH rfl <| MS rfl <| MB rfl <| MB rfl <| MS rfl <| MS rfl <| MI rfl <| MC rfl <| CN (zag zaM zli (.c (v := .int .u16 _) rfl (h := (.c (v := str _) rfl (h := (.c (v := .bool _) rfl (h := (.c (v := .bool _) rfl (h := (.c (v := str _) rfl (h := (.c (v := str _) rfl (h := (.c (v := .int .i64 _) rfl (h := (.c (v := .int .u8 _) rfl (h := .nil)))))))))))))))) ?_)
 refine CN (SO (v := zau _ _ _ _ _ _ _ _) hst zaM rfl rfl .u0 fun w hst => ?_)
 refine NL <| zah Tryz.func147 rfl (zal (vs := zaC _ _ _ _ _ _ _ _) rfl zaM rfl rfl (zac (n := 8) (hst.objL Q0) _ rfl)) ?_
 exact ⟨rfl, hst.pure⟩
set_option maxRecDepth 4000 in
set_option maxHeartbeats 4000000 in
theorem zro (op : Int) (w : World) : Ret Tryz.prog 90 #[.int .u16 op] w (fun v w' => v = zv6 (zbv op) ∧ St w NoM [] [] w') := by
 refine zav (args := [.int .u16 op]) Tryz.func90 rfl rfl rfl ?_
 have hst := St.init w
 refine SR <| CN <| Op1.alloc hst zaM fun w b2 hst => AB rfl <| NL <| SQ <| SR <| MH rfl <| NL <| zao <| SR <| CN <| zak rfl rfl <| AB rfl ?_
 refine NL <| zab rfl (fun g1 => ?_) (fun g1 => ?_)
 ·refine SR <| MH rfl <| CN <| zaG za4 rfl rfl rfl rfl rfl rfl rfl rfl rfl <| Ret.det (zaF _ _ _ _ _ _ _ _ _) hst fun w hst => CN (SO (v := zau _ _ _ _ _ _ _ _) hst zaM rfl rfl .u0 fun w hst => ?_)
  refine AB rfl <| NL <| zai Tryz.func90 rfl (zal (vs := zaC _ _ _ _ _ _ _ _) rfl zaM rfl rfl (zac (n := 8) (hst.objL Q0) _ rfl)) (TP (v := .bool _) rfl) ?_
  subst g1
  have e : zbv 1 = some ⟨1, [79, 112, 85, 110, 100, 101, 102], true, true, [], [], 0, 7⟩ := by decide +kernel
  rw [e]
  exact ⟨rfl, hst.pure⟩
 refine SR <| CN <| zak rfl rfl <| AB rfl <| NL <| zab rfl (fun g2 => ?_) (fun g2 => ?_)
 ·refine SR <| MH rfl <| CN <| zaG za4 rfl rfl rfl rfl rfl rfl rfl rfl rfl <| Ret.det (zaF _ _ _ _ _ _ _ _ _) hst fun w hst => CN (SO (v := zau _ _ _ _ _ _ _ _) hst zaM rfl rfl .u0 fun w hst => ?_)
  refine AB rfl <| NL <| zai Tryz.func90 rfl (zal (vs := zaC _ _ _ _ _ _ _ _) rfl zaM rfl rfl (zac (n := 8) (hst.objL Q0) _ rfl)) (TP (v := .bool _) rfl) ?_
  subst g2
  have e : zbv 3 = some ⟨3, [79, 112, 83, 111, 117, 114, 99, 101], false, false, [108, 110], [], 0, 4⟩ := by decide +kernel
  rw [e]
  exact ⟨rfl, hst.pure⟩
 refine SR <| CN <| zak rfl rfl <| AB rfl <| NL <| zab rfl (fun g3 => ?_) (fun g3 => ?_)
 ·refine SR <| MH rfl <| CN <| zaG za4 rfl rfl rfl rfl rfl rfl rfl rfl rfl <| Ret.det (zaF _ _ _ _ _ _ _ _ _) hst fun w hst => CN (SO (v := zau _ _ _ _ _ _ _ _) hst zaM rfl rfl .u0 fun w hst => ?_)
  refine AB rfl <| NL <| zai Tryz.func90 rfl (zal (vs := zaC _ _ _ _ _ _ _ _) rfl zaM rfl rfl (zac (n := 8) (hst.objL Q0) _ rfl)) (TP (v := .bool _) rfl) ?_
  subst g3
  have e : zbv 5 = some ⟨5, [79, 112, 78, 97, 109, 101], false, false, [105, 115], [], 0, 5⟩ := by decide +kernel
  rw [e]
  exact ⟨rfl, hst.pure⟩
 refine SR <| CN <| zak rfl rfl <| AB rfl <| NL <| zab rfl (fun g4 => ?_) (fun g4 => ?_)
 ·refine SR <| MH rfl <| CN <| zaG za4 rfl rfl rfl rfl rfl rfl rfl rfl rfl <| Ret.det (zaF _ _ _ _ _ _ _ _ _) hst fun w hst => CN (SO (v := zau _ _ _ _ _ _ _ _) hst zaM rfl rfl .u0 fun w hst => ?_)
  refine AB rfl <| NL <| zai Tryz.func90 rfl (zal (vs := zaC _ _ _ _ _ _ _ _) rfl zaM rfl rfl (zac (n := 8) (hst.objL Q0) _ rfl)) (TP (v := .bool _) rfl) ?_
  subst g4
  have e : zbv 6 = some ⟨6, [79, 112, 77, 101, 109, 98, 101, 114, 78, 97, 109, 101], false, false, [105, 110, 115], [], 0, 5⟩ := by decide +kernel
  rw [e]
  exact ⟨rfl, hst.pure⟩
 refine SR <| CN <| zak rfl rfl <| AB rfl <| NL <| zab rfl (fun g5 => ?_) (fun g5 => ?_)
 ·refine SR <| MH rfl <| CN <| zaG za4 rfl rfl rfl rfl rfl rfl rfl rfl rfl <| Ret.det (zaF _ _ _ _ _ _ _ _ _) hst fun w hst => CN (SO (v := zau _ _ _ _ _ _ _ _) hst zaM rfl rfl .u0 fun w hst => ?_)
  refine AB rfl <| NL <| zai Tryz.func90 rfl (zal (vs := zaC _ _ _ _ _ _ _ _) rfl zaM rfl rfl (zac (n := 8) (hst.objL Q0) _ rfl)) (TP (v := .bool _) rfl) ?_
  subst g5
  have e : zbv 7 = some ⟨7, [79, 112, 83, 116, 114, 105, 110, 103], false, true, [115], [], 0, 4⟩ := by decide +kernel
  rw [e]
  exact ⟨rfl, hst.pure⟩
 refine SR <| CN <| zak rfl rfl <| AB rfl <| NL <| zab rfl (fun g6 => ?_) (fun g6 => ?_)
 ·refine SR <| MH rfl <| CN <| zaG za4 rfl rfl rfl rfl rfl rfl rfl rfl rfl <| Ret.det (zaF _ _ _ _ _ _ _ _ _) hst fun w hst => CN (SO (v := zau _ _ _ _ _ _ _ _) hst zaM rfl rfl .u0 fun w hst => ?_)
  refine AB rfl <| NL <| zai Tryz.func90 rfl (zal (vs := zaC _ _ _ _ _ _ _ _) rfl zaM rfl rfl (zac (n := 8) (hst.objL Q0) _ rfl)) (TP (v := .bool _) rfl) ?_
  subst g6
  have e : zbv 14 = some ⟨14, [79, 112, 77, 101, 109, 111, 114, 121, 77, 111, 100, 101, 108], false, false, [97, 109], [], 0, 1⟩ := by decide +kernel
  rw [e]
  exact ⟨rfl, hst.pure⟩
 refine SR <| CN <| zak rfl rfl <| AB rfl <| NL <| zab rfl (fun g7 => ?_) (fun g7 => ?_)
 ·refine SR <| MH rfl <| CN <| zaG za4 rfl rfl rfl rfl rfl rfl rfl rfl rfl <| Ret.det (zaF _ _ _ _ _ _ _ _ _) hst fun w hst => CN (SO (v := zau _ _ _ _ _ _ _ _) hst zaM rfl rfl .u0 fun w hst => ?_)
  refine AB rfl <| NL <| zai Tryz.func90 rfl (zal (vs := zaC _ _ _ _ _ _ _ _) rfl zaM rfl rfl (zac (n := 8) (hst.objL Q0) _ rfl)) (TP (v := .bool _) rfl) ?_
  subst g7
  have e : zbv 15 = some ⟨15, [79, 112, 69, 110, 116, 114, 121, 80, 111, 105, 110, 116], false, false, [101, 105, 115], [105], 0, 2⟩ := by decide +kernel
  rw [e]
  exact ⟨rfl, hst.pure⟩
 refine SR <| CN <| zak rfl rfl <| AB rfl <| NL <| zaj [(0, .int .u16 _), (2, Pp _ _), (4, .int .u16 _), (33, .bool _)] E4 fun f => zab rfl (fun g8 => ?_) (fun g8 => ?_)
 ·refine SR <| MH rfl <| CN <| zaG za4 rfl rfl rfl rfl rfl rfl rfl rfl rfl <| Ret.det (zaF _ _ _ _ _ _ _ _ _) hst fun w hst => CN (SO (v := zau _ _ _ _ _ _ _ _) hst zaM rfl rfl .u0 fun w hst => ?_)
  refine AB rfl <| NL <| zai Tryz.func90 rfl (zal (vs := zaC _ _ _ _ _ _ _ _) rfl zaM rfl rfl (zac (n := 8) (hst.objL Q0) _ rfl)) (TP (v := .bool _) rfl) ?_
  subst g8
  have e : zbv 16 = some ⟨16, [79, 112, 69, 120, 101, 99, 117, 116, 105, 111, 110, 77, 111, 100, 101], false, false, [105, 120], [], 0, 3⟩ := by decide +kernel
  rw [e]
  exact ⟨rfl, hst.pure⟩
 refine SR <| CN <| zak rfl rfl <| AB rfl <| NL <| zab rfl (fun g9 => ?_) (fun g9 => ?_)
 ·refine SR <| MH rfl <| CN <| zaG za4 rfl rfl rfl rfl rfl rfl rfl rfl rfl <| Ret.det (zaF _ _ _ _ _ _ _ _ _) hst fun w hst => CN (SO (v := zau _ _ _ _ _ _ _ _) hst zaM rfl rfl .u0 fun w hst => ?_)
  refine AB rfl <| NL <| zai Tryz.func90 rfl (zal (vs := zaC _ _ _ _ _ _ _ _) rfl zaM rfl rfl (zac (n := 8) (hst.objL Q0) _ rfl)) (TP (v := .bool _) rfl) ?_
  subst g9
  have e : zbv 17 = some ⟨17, [79, 112, 67, 97, 112, 97, 98, 105, 108, 105, 116, 121], false, false, [107], [], 0, 0⟩ := by decide +kernel
  rw [e]
  exact ⟨rfl, hst.pure⟩
 refine SR <| CN <| zak rfl rfl <| AB rfl <| NL <| zab rfl (fun g10 => ?_) (fun g10 => ?_)
 ·refine SR <| MH rfl <| CN <| zaG za4 rfl rfl rfl rfl rfl rfl rfl rfl rfl <| Ret.det (zaF _ _ _ _ _ _ _ _ _) hst fun w hst => CN (SO (v := zau _ _ _ _ _ _ _ _) hst zaM rfl rfl .u0 fun w hst => ?_)
  refine AB rfl <| NL <| zai Tryz.func90 rfl (zal (vs := zaC _ _ _ _ _ _ _ _) rfl zaM rfl rfl (zac (n := 8) (hst.objL Q0) _ rfl)) (TP (v := .bool _) rfl) ?_
  subst g10
  have e : zbv 19 = some ⟨19, [79, 112, 84, 121, 112, 101, 86, 111, 105, 100], false, true, [], [], 0, 7⟩ := by decide +kernel
  rw [e]
  exact ⟨rfl, hst.pure⟩
 refine SR <| CN <| zak rfl rfl <| AB rfl <| NL <| zab rfl (fun g11 => ?_) (fun g11 => ?_)
 ·refine SR <| MH rfl <| CN <| zaG za4 rfl rfl rfl rfl rfl rfl rfl rfl rfl <| Ret.det (zaF _ _ _ _ _ _ _ _ _) hst fun w hst => CN (SO (v := zau _ _ _ _ _ _ _ _) hst zaM rfl rfl .u0 fun w hst => ?_)
  refine AB rfl <| NL <| zai Tryz.func90 rfl (zal (vs := zaC _ _ _ _ _ _ _ _) rfl zaM rfl rfl (zac (n := 8) (hst.objL Q0) _ rfl)) (TP (v := .bool _) rfl) ?_
  subst g11
  have e : zbv 20 = some ⟨20, [79, 112, 84, 121, 112, 101, 66, 111, 111, 108], false, true, [], [], 0, 7⟩ := by decide +kernel
  rw [e]
  exact ⟨rfl, hst.pure⟩
 refine SR <| CN <| zak rfl rfl <| AB rfl <| NL <| zab rfl (fun g12 => ?_) (fun g12 => ?_)
 ·refine SR <| MH rfl <| CN <| zaG za4 rfl rfl rfl rfl rfl rfl rfl rfl rfl <| Ret.det (zaF _ _ _ _ _ _ _ _ _) hst fun w hst => CN (SO (v := zau _ _ _ _ _ _ _ _) hst zaM rfl rfl .u0 fun w hst => ?_)
  refine AB rfl <| NL <| zai Tryz.func90 rfl (zal (vs := zaC _ _ _ _ _ _ _ _) rfl zaM rfl rfl (zac (n := 8) (hst.objL Q0) _ rfl)) (TP (v := .bool _) rfl) ?_
  subst g12
  have e : zbv 21 = some ⟨21, [79, 112, 84, 121, 112, 101, 73, 110, 116], false, true, [110, 110], [], 0, 7⟩ := by decide +kernel
  rw [e]
  exact ⟨rfl, hst.pure⟩
 refine SR <| CN <| zak rfl rfl <| AB rfl <| NL <| zab rfl (fun g13 => ?_) (fun g13 => ?_)
 ·refine SR <| MH rfl <| CN <| zaG za4 rfl rfl rfl rfl rfl rfl rfl rfl rfl <| Ret.det (zaF _ _ _ _ _ _ _ _ _) hst fun w hst => CN (SO (v := zau _ _ _ _ _ _ _ _) hst zaM rfl rfl .u0 fun w hst => ?_)
  refine AB rfl <| NL <| zai Tryz.func90 rfl (zal (vs := zaC _ _ _ _ _ _ _ _) rfl zaM rfl rfl (zac (n := 8) (hst.objL Q0) _ rfl)) (TP (v := .bool _) rfl) ?_
  subst g13
  have e : zbv 23 = some ⟨23, [79, 112, 84, 121, 112, 101, 86, 101, 99, 116, 111, 114], false, true, [105, 110], [], 0, 7⟩ := by decide +kernel
  rw [e]
  exact ⟨rfl, hst.pure⟩
 refine SR <| CN <| zak rfl rfl <| AB rfl <| NL <| zab rfl (fun g14 => ?_) (fun g14 => ?_)
 ·refine SR <| MH rfl <| CN <| zaG za4 rfl rfl rfl rfl rfl rfl rfl rfl rfl <| Ret.det (zaF _ _ _ _ _ _ _ _ _) hst fun w hst => CN (SO (v := zau _ _ _ _ _ _ _ _) hst zaM rfl rfl .u0 fun w hst => ?_)
  refine AB rfl <| NL <| zai Tryz.func90 rfl (zal (vs := zaC _ _ _ _ _ _ _ _) rfl zaM rfl rfl (zac (n := 8) (hst.objL Q0) _ rfl)) (TP (v := .bool _) rfl) ?_
  subst g14
  have e : zbv 28 = some ⟨28, [79, 112, 84, 121, 112, 101, 65, 114, 114, 97, 121], false, true, [105, 105], [], 0, 7⟩ := by decide +kernel
  rw [e]
  exact ⟨rfl, hst.pure⟩
 refine SR <| CN <| zak rfl rfl <| AB rfl <| NL <| zab rfl (fun g15 => ?_) (fun g15 => ?_)
 ·refine SR <| MH rfl <| CN <| zaG za4 rfl rfl rfl rfl rfl rfl rfl rfl rfl <| Ret.det (zaF _ _ _ _ _ _ _ _ _) hst fun w hst => CN (SO (v := zau _ _ _ _ _ _ _ _) hst zaM rfl rfl .u0 fun w hst => ?_)
  refine AB rfl <| NL <| zai Tryz.func90 rfl (zal (vs := zaC _ _ _ _ _ _ _ _) rfl zaM rfl rfl (zac (n := 8) (hst.objL Q0) _ rfl)) (TP (v := .bool _) rfl) ?_
  subst g15
  have e : zbv 30 = some ⟨30, [79, 112, 84, 121, 112, 101, 83, 116, 114, 117, 99, 116], false, true, [], [105], 0, 7⟩ := by decide +kernel
  rw [e]
  exact ⟨rfl, hst.pure⟩
 refine SR <| CN <| zak rfl rfl <| AB rfl <| NL <| zab rfl (fun g16 => ?_) (fun g16 => ?_)
 ·refine SR <| MH rfl <| CN <| zaG za4 rfl rfl rfl rfl rfl rfl rfl rfl rfl <| Ret.det (zaF _ _ _ _ _ _ _ _ _) hst fun w hst => CN (SO (v := zau _ _ _ _ _ _ _ _) hst zaM rfl rfl .u0 fun w hst => ?_)
  refine AB rfl <| NL <| zai Tryz.func90 rfl (zal (vs := zaC _ _ _ _ _ _ _ _) rfl zaM rfl rfl (zac (n := 8) (hst.objL Q0) _ rfl)) (TP (v := .bool _) rfl) ?_
  subst g16
  have e : zbv 32 = some ⟨32, [79, 112, 84, 121, 112, 101, 80, 111, 105, 110, 116, 101, 114], false, true, [99, 105], [], 0, 7⟩ := by decide +kernel
  rw [e]
  exact ⟨rfl, hst.pure⟩
 refine SR <| CN <| zak rfl rfl <| AB rfl <| NL <| zab rfl (fun g17 => ?_) (fun g17 => ?_)
 ·refine SR <| MH rfl <| CN <| zaG za4 rfl rfl rfl rfl rfl rfl rfl rfl rfl <| Ret.det (zaF _ _ _ _ _ _ _ _ _) hst fun w hst => CN (SO (v := zau _ _ _ _ _ _ _ _) hst zaM rfl rfl .u0 fun w hst => ?_)
  refine AB rfl <| NL <| zai Tryz.func90 rfl (zal (vs := zaC _ _ _ _ _ _ _ _) rfl zaM rfl rfl (zac (n := 8) (hst.objL Q0) _ rfl)) (TP (v := .bool _) rfl) ?_
  subst g17
  have e : zbv 33 = some ⟨33, [79, 112, 84, 121, 112, 101, 70, 117, 110, 99, 116, 105, 111, 110], false, true, [105], [105], 0, 7⟩ := by decide +kernel
  rw [e]
  exact ⟨rfl, hst.pure⟩
 refine SR <| CN <| zak rfl rfl <| AB rfl <| NL <| zaj [(0, .int .u16 _), (2, Pp _ _), (4, .int .u16 _), (73, .bool _)] E4 fun f => zab rfl (fun g18 => ?_) (fun g18 => ?_)
 ·refine SR <| MH rfl <| CN <| zaG za4 rfl rfl rfl rfl rfl rfl rfl rfl rfl <| Ret.det (zaF _ _ _ _ _ _ _ _ _) hst fun w hst => CN (SO (v := zau _ _ _ _ _ _ _ _) hst zaM rfl rfl .u0 fun w hst => ?_)
  refine AB rfl <| NL <| zai Tryz.func90 rfl (zal (vs := zaC _ _ _ _ _ _ _ _) rfl zaM rfl rfl (zac (n := 8) (hst.objL Q0) _ rfl)) (TP (v := .bool _) rfl) ?_
  subst g18
  have e : zbv 41 = some ⟨41, [79, 112, 67, 111, 110, 115, 116, 97, 110, 116, 84, 114, 117, 101], true, true, [], [], 0, 7⟩ := by decide +kernel
  rw [e]
  exact ⟨rfl, hst.pure⟩
 refine SR <| CN <| zak rfl rfl <| AB rfl <| NL <| zab rfl (fun g19 => ?_) (fun g19 => ?_)
 ·refine SR <| MH rfl <| CN <| zaG za4 rfl rfl rfl rfl rfl rfl rfl rfl rfl <| Ret.det (zaF _ _ _ _ _ _ _ _ _) hst fun w hst => CN (SO (v := zau _ _ _ _ _ _ _ _) hst zaM rfl rfl .u0 fun w hst => ?_)
  refine AB rfl <| NL <| zai Tryz.func90 rfl (zal (vs := zaC _ _ _ _ _ _ _ _) rfl zaM rfl rfl (zac (n := 8) (hst.objL Q0) _ rfl)) (TP (v := .bool _) rfl) ?_
  subst g19
  have e : zbv 42 = some ⟨42, [79, 112, 67, 111, 110, 115, 116, 97, 110, 116, 70, 97, 108, 115, 101], true, true, [], [], 0, 7⟩ := by decide +kernel
  rw [e]
  exact ⟨rfl, hst.pure⟩
 refine SR <| CN <| zak rfl rfl <| AB rfl <| NL <| zab rfl (fun g20 => ?_) (fun g20 => ?_)
 ·refine SR <| MH rfl <| CN <| zaG za4 rfl rfl rfl rfl rfl rfl rfl rfl rfl <| Ret.det (zaF _ _ _ _ _ _ _ _ _) hst fun w hst => CN (SO (v := zau _ _ _ _ _ _ _ _) hst zaM rfl rfl .u0 fun w hst => ?_)
  refine AB rfl <| NL <| zai Tryz.func90 rfl (zal (vs := zaC _ _ _ _ _ _ _ _) rfl zaM rfl rfl (zac (n := 8) (hst.objL Q0) _ rfl)) (TP (v := .bool _) rfl) ?_
  subst g20
  have e : zbv 43 = some ⟨43, [79, 112, 67, 111, 110, 115, 116, 97, 110, 116], true, true, [110], [], 0, 7⟩ := by decide +kernel
  rw [e]
  exact ⟨rfl, hst.pure⟩
 refine SR <| CN <| zak rfl rfl <| AB rfl <| NL <| zab rfl (fun g21 => ?_) (fun g21 => ?_)
 ·refine SR <| MH rfl <| CN <| zaG za4 rfl rfl rfl rfl rfl rfl rfl rfl rfl <| Ret.det (zaF _ _ _ _ _ _ _ _ _) hst fun w hst => CN (SO (v := zau _ _ _ _ _ _ _ _) hst zaM rfl rfl .u0 fun w hst => ?_)
  refine AB rfl <| NL <| zai Tryz.func90 rfl (zal (vs := zaC _ _ _ _ _ _ _ _) rfl zaM rfl rfl (zac (n := 8) (hst.objL Q0) _ rfl)) (TP (v := .bool _) rfl) ?_
  subst g21
  have e : zbv 44 = some ⟨44, [79, 112, 67, 111, 110, 115, 116, 97, 110, 116, 67, 111, 109, 112, 111, 115, 105, 116, 101], true, true, [], [105], 0, 7⟩ := by decide +kernel
  rw [e]
  exact ⟨rfl, hst.pure⟩
 refine SR <| CN <| zak rfl rfl <| AB rfl <| NL <| zab rfl (fun g22 => ?_) (fun g22 => ?_)
 ·refine SR <| MH rfl <| CN <| zaG za4 rfl rfl rfl rfl rfl rfl rfl rfl rfl <| Ret.det (zaF _ _ _ _ _ _ _ _ _) hst fun w hst => CN (SO (v := zau _ _ _ _ _ _ _ _) hst zaM rfl rfl .u0 fun w hst => ?_)
  refine AB rfl <| NL <| zai Tryz.func90 rfl (zal (vs := zaC _ _ _ _ _ _ _ _) rfl zaM rfl rfl (zac (n := 8) (hst.objL Q0) _ rfl)) (TP (v := .bool _) rfl) ?_
  subst g22
  have e : zbv 46 = some ⟨46, [79, 112, 67, 111, 110, 115, 116, 97, 110, 116, 78, 117, 108, 108], true, true, [], [], 0, 7⟩ := by decide +kernel
  rw [e]
  exact ⟨rfl, hst.pure⟩
 refine SR <| CN <| zak rfl rfl <| AB rfl <| NL <| zab rfl (fun g23 => ?_) (fun g23 => ?_)
 ·refine SR <| MH rfl <| CN <| zaG za4 rfl rfl rfl rfl rfl rfl rfl rfl rfl <| Ret.det (zaF _ _ _ _ _ _ _ _ _) hst fun w hst => CN (SO (v := zau _ _ _ _ _ _ _ _) hst zaM rfl rfl .u0 fun w hst => ?_)
  refine AB rfl <| NL <| zai Tryz.func90 rfl (zal (vs := zaC _ _ _ _ _ _ _ _) rfl zaM rfl rfl (zac (n := 8) (hst.objL Q0) _ rfl)) (TP (v := .bool _) rfl) ?_
  subst g23
  have e : zbv 54 = some ⟨54, [79, 112, 70, 117, 110, 99, 116, 105, 111, 110], true, true, [102, 105], [], 0, 8⟩ := by decide +kernel
  rw [e]
  exact ⟨rfl, hst.pure⟩
 refine SR <| CN <| zak rfl rfl <| AB rfl <| NL <| zab rfl (fun g24 => ?_) (fun g24 => ?_)
 ·refine SR <| MH rfl <| CN <| zaG za4 rfl rfl rfl rfl rfl rfl rfl rfl rfl <| Ret.det (zaF _ _ _ _ _ _ _ _ _) hst fun w hst => CN (SO (v := zau _ _ _ _ _ _ _ _) hst zaM rfl rfl .u0 fun w hst => ?_)
  refine AB rfl <| NL <| zai Tryz.func90 rfl (zal (vs := zaC _ _ _ _ _ _ _ _) rfl zaM rfl rfl (zac (n := 8) (hst.objL Q0) _ rfl)) (TP (v := .bool _) rfl) ?_
  subst g24
  have e : zbv 55 = some ⟨55, [79, 112, 70, 117, 110, 99, 116, 105, 111, 110, 80, 97, 114, 97, 109, 101, 116, 101, 114], true, true, [], [], 0, 8⟩ := by decide +kernel
  rw [e]
  exact ⟨rfl, hst.pure⟩
 refine SR <| CN <| zak rfl rfl <| AB rfl <| NL <| zab rfl (fun g25 => ?_) (fun g25 => ?_)
 ·refine SR <| MH rfl <| CN <| zaG za4 rfl rfl rfl rfl rfl rfl rfl rfl rfl <| Ret.det (zaF _ _ _ _ _ _ _ _ _) hst fun w hst => CN (SO (v := zau _ _ _ _ _ _ _ _) hst zaM rfl rfl .u0 fun w hst => ?_)
  refine AB rfl <| NL <| zai Tryz.func90 rfl (zal (vs := zaC _ _ _ _ _ _ _ _) rfl zaM rfl rfl (zac (n := 8) (hst.objL Q0) _ rfl)) (TP (v := .bool _) rfl) ?_
  subst g25
  have e : zbv 56 = some ⟨56, [79, 112, 70, 117, 110, 99, 116, 105, 111, 110, 69, 110, 100], false, false, [], [], 0, 8⟩ := by decide +kernel
  rw [e]
  exact ⟨rfl, hst.pure⟩
 refine SR <| CN <| zak rfl rfl <| AB rfl <| NL <| zab rfl (fun g26 => ?_) (fun g26 => ?_)
 ·refine SR <| MH rfl <| CN <| zaG za4 rfl rfl rfl rfl rfl rfl rfl rfl rfl <| Ret.det (zaF _ _ _ _ _ _ _ _ _) hst fun w hst => CN (SO (v := zau _ _ _ _ _ _ _ _) hst zaM rfl rfl .u0 fun w hst => ?_)
  refine AB rfl <| NL <| zai Tryz.func90 rfl (zal (vs := zaC _ _ _ _ _ _ _ _) rfl zaM rfl rfl (zac (n := 8) (hst.objL Q0) _ rfl)) (TP (v := .bool _) rfl) ?_
  subst g26
  have e : zbv 57 = some ⟨57, [79, 112, 70, 117, 110, 99, 116, 105, 111, 110, 67, 97, 108, 108], true, true, [105], [105], 0, 8⟩ := by decide +kernel
  rw [e]
  exact ⟨rfl, hst.pure⟩
 refine SR <| CN <| zak rfl rfl <| AB rfl <| NL <| zab rfl (fun g27 => ?_) (fun g27 => ?_)
 ·refine SR <| MH rfl <| CN <| zaG za4 rfl rfl rfl rfl rfl rfl rfl rfl rfl <| Ret.det (zaF _ _ _ _ _ _ _ _ _) hst fun w hst => CN (SO (v := zau _ _ _ _ _ _ _ _) hst zaM rfl rfl .u0 fun w hst => ?_)
  refine AB rfl <| NL <| zai Tryz.func90 rfl (zal (vs := zaC _ _ _ _ _ _ _ _) rfl zaM rfl rfl (zac (n := 8) (hst.objL Q0) _ rfl)) (TP (v := .bool _) rfl) ?_
  subst g27
  have e : zbv 59 = some ⟨59, [79, 112, 86, 97, 114, 105, 97, 98, 108, 101], true, true, [99], [105], 1, 7⟩ := by decide +kernel
  rw [e]
  exact ⟨rfl, hst.pure⟩
 refine SR <| CN <| zak rfl rfl <| AB rfl <| NL <| zaj [(0, .int .u16 _), (2, Pp _ _), (4, .int .u16 _), (113, .bool _)] E4 fun f => zab rfl (fun g28 => ?_) (fun g28 => ?_)
 ·refine SR <| MH rfl <| CN <| zaG za4 rfl rfl rfl rfl rfl rfl rfl rfl rfl <| Ret.det (zaF _ _ _ _ _ _ _ _ _) hst fun w hst => CN (SO (v := zau _ _ _ _ _ _ _ _) hst zaM rfl rfl .u0 fun w hst => ?_)
  refine AB rfl <| NL <| zai Tryz.func90 rfl (zal (vs := zaC _ _ _ _ _ _ _ _) rfl zaM rfl rfl (zac (n := 8) (hst.objL Q0) _ rfl)) (TP (v := .bool _) rfl) ?_
  subst g28
  have e : zbv 61 = some ⟨61, [79, 112, 76, 111, 97, 100], true, true, [105], [], 0, 8⟩ := by decide +kernel
  rw [e]
  exact ⟨rfl, hst.pure⟩
 refine SR <| CN <| zak rfl rfl <| AB rfl <| NL <| zab rfl (fun g29 => ?_) (fun g29 => ?_)
 ·refine SR <| MH rfl <| CN <| zaG za4 rfl rfl rfl rfl rfl rfl rfl rfl rfl <| Ret.det (zaF _ _ _ _ _ _ _ _ _) hst fun w hst => CN (SO (v := zau _ _ _ _ _ _ _ _) hst zaM rfl rfl .u0 fun w hst => ?_)
  refine AB rfl <| NL <| zai Tryz.func90 rfl (zal (vs := zaC _ _ _ _ _ _ _ _) rfl zaM rfl rfl (zac (n := 8) (hst.objL Q0) _ rfl)) (TP (v := .bool _) rfl) ?_
  subst g29
  have e : zbv 62 = some ⟨62, [79, 112, 83, 116, 111, 114, 101], false, false, [105, 105], [], 0, 8⟩ := by decide +kernel
  rw [e]
  exact ⟨rfl, hst.pure⟩
 refine SR <| CN <| zak rfl rfl <| AB rfl <| NL <| zab rfl (fun g30 => ?_) (fun g30 => ?_)
 ·refine SR <| MH rfl <| CN <| zaG za4 rfl rfl rfl rfl rfl rfl rfl rfl rfl <| Ret.det (zaF _ _ _ _ _ _ _ _ _) hst fun w hst => CN (SO (v := zau _ _ _ _ _ _ _ _) hst zaM rfl rfl .u0 fun w hst => ?_)
  refine AB rfl <| NL <| zai Tryz.func90 rfl (zal (vs := zaC _ _ _ _ _ _ _ _) rfl zaM rfl rfl (zac (n := 8) (hst.objL Q0) _ rfl)) (TP (v := .bool _) rfl) ?_
  subst g30
  have e : zbv 65 = some ⟨65, [79, 112, 65, 99, 99, 101, 115, 115, 67, 104, 97, 105, 110], true, true, [105], [105], 0, 8⟩ := by decide +kernel
  rw [e]
  exact ⟨rfl, hst.pure⟩
 refine SR <| CN <| zak rfl rfl <| AB rfl <| NL <| zab rfl (fun g31 => ?_) (fun g31 => ?_)
 ·refine SR <| MH rfl <| CN <| zaG za4 rfl rfl rfl rfl rfl rfl rfl rfl rfl <| Ret.det (zaF _ _ _ _ _ _ _ _ _) hst fun w hst => CN (SO (v := zau _ _ _ _ _ _ _ _) hst zaM rfl rfl .u0 fun w hst => ?_)
  refine AB rfl <| NL <| zai Tryz.func90 rfl (zal (vs := zaC _ _ _ _ _ _ _ _) rfl zaM rfl rfl (zac (n := 8) (hst.objL Q0) _ rfl)) (TP (v := .bool _) rfl) ?_
  subst g31
  have e : zbv 71 = some ⟨71, [79, 112, 68, 101, 99, 111, 114, 97, 116, 101], false, false, [105, 100], [110], 0, 6⟩ := by decide +kernel
  rw [e]
  exact ⟨rfl, hst.pure⟩
 refine SR <| CN <| zak rfl rfl <| AB rfl <| NL <| zab rfl (fun g32 => ?_) (fun g32 => ?_)
 ·refine SR <| MH rfl <| CN <| zaG za4 rfl rfl rfl rfl rfl rfl rfl rfl rfl <| Ret.det (zaF _ _ _ _ _ _ _ _ _) hst fun w hst => CN (SO (v := zau _ _ _ _ _ _ _ _) hst zaM rfl rfl .u0 fun w hst => ?_)
  refine AB rfl <| NL <| zai Tryz.func90 rfl (zal (vs := zaC _ _ _ _ _ _ _ _) rfl zaM rfl rfl (zac (n := 8) (hst.objL Q0) _ rfl)) (TP (v := .bool _) rfl) ?_
  subst g32
  have e : zbv 77 = some ⟨77, [79, 112, 86, 101, 99, 116, 111, 114, 69, 120, 116, 114, 97, 99, 116, 68, 121, 110, 97, 109, 105, 99], true, true, [105, 105], [], 0, 8⟩ := by decide +kernel
  rw [e]
  exact ⟨rfl, hst.pure⟩
 refine SR <| CN <| zak rfl rfl <| AB rfl <| NL <| zab rfl (fun g33 => ?_) (fun g33 => ?_)
 ·refine SR <| MH rfl <| CN <| zaG za4 rfl rfl rfl rfl rfl rfl rfl rfl rfl <| Ret.det (zaF _ _ _ _ _ _ _ _ _) hst fun w hst => CN (SO (v := zau _ _ _ _ _ _ _ _) hst zaM rfl rfl .u0 fun w hst => ?_)
  refine AB rfl <| NL <| zai Tryz.func90 rfl (zal (vs := zaC _ _ _ _ _ _ _ _) rfl zaM rfl rfl (zac (n := 8) (hst.objL Q0) _ rfl)) (TP (v := .bool _) rfl) ?_
  subst g33
  have e : zbv 78 = some ⟨78, [79, 112, 86, 101, 99, 116, 111, 114, 73, 110, 115, 101, 114, 116, 68, 121, 110, 97, 109, 105, 99], true, true, [105, 105, 105], [], 0, 8⟩ := by decide +kernel
  rw [e]
  exact ⟨rfl, hst.pure⟩
 refine SR <| CN <| zak rfl rfl <| AB rfl <| NL <| zab rfl (fun g34 => ?_) (fun g34 => ?_)
 ·refine SR <| MH rfl <| CN <| zaG za4 rfl rfl rfl rfl rfl rfl rfl rfl rfl <| Ret.det (zaF _ _ _ _ _ _ _ _ _) hst fun w hst => CN (SO (v := zau _ _ _ _ _ _ _ _) hst zaM rfl rfl .u0 fun w hst => ?_)
  refine AB rfl <| NL <| zai Tryz.func90 rfl (zal (vs := zaC _ _ _ _ _ _ _ _) rfl zaM rfl rfl (zac (n := 8) (hst.objL Q0) _ rfl)) (TP (v := .bool _) rfl) ?_
  subst g34
  have e : zbv 79 = some ⟨79, [79, 112, 86, 101, 99, 116, 111, 114, 83, 104, 117, 102, 102, 108, 101], true, true, [105, 105], [110], 0, 8⟩ := by decide +kernel
  rw [e]
  exact ⟨rfl, hst.pure⟩
 refine SR <| CN <| zak rfl rfl <| AB rfl <| NL <| zab rfl (fun g35 => ?_) (fun g35 => ?_)
 ·refine SR <| MH rfl <| CN <| zaG za4 rfl rfl rfl rfl rfl rfl rfl rfl rfl <| Ret.det (zaF _ _ _ _ _ _ _ _ _) hst fun w hst => CN (SO (v := zau _ _ _ _ _ _ _ _) hst zaM rfl rfl .u0 fun w hst => ?_)
  refine AB rfl <| NL <| zai Tryz.func90 rfl (zal (vs := zaC _ _ _ _ _ _ _ _) rfl zaM rfl rfl (zac (n := 8) (hst.objL Q0) _ rfl)) (TP (v := .bool _) rfl) ?_
  subst g35
  have e : zbv 80 = some ⟨80, [79, 112, 67, 111, 109, 112, 111, 115, 105, 116, 101, 67, 111, 110, 115, 116, 114, 117, 99, 116], true, true, [], [105], 0, 8⟩ := by decide +kernel
  rw [e]
  exact ⟨rfl, hst.pure⟩
 refine SR <| CN <| zak rfl rfl <| AB rfl <| NL <| zab rfl (fun g36 => ?_) (fun g36 => ?_)
 ·refine SR <| MH rfl <| CN <| zaG za4 rfl rfl rfl rfl rfl rfl rfl rfl rfl <| Ret.det (zaF _ _ _ _ _ _ _ _ _) hst fun w hst => CN (SO (v := zau _ _ _ _ _ _ _ _) hst zaM rfl rfl .u0 fun w hst => ?_)
  refine AB rfl <| NL <| zai Tryz.func90 rfl (zal (vs := zaC _ _ _ _ _ _ _ _) rfl zaM rfl rfl (zac (n := 8) (hst.objL Q0) _ rfl)) (TP (v := .bool _) rfl) ?_
  subst g36
  have e : zbv 81 = some ⟨81, [79, 112, 67, 111, 109, 112, 111, 115, 105, 116, 101, 69, 120, 116, 114, 97, 99, 116], true, true, [105], [110], 0, 8⟩ := by decide +kernel
  rw [e]
  exact ⟨rfl, hst.pure⟩
 refine SR <| CN <| zak rfl rfl <| AB rfl <| NL <| zab rfl (fun g37 => ?_) (fun g37 => ?_)
 ·refine SR <| MH rfl <| CN <| zaG za4 rfl rfl rfl rfl rfl rfl rfl rfl rfl <| Ret.det (zaF _ _ _ _ _ _ _ _ _) hst fun w hst => CN (SO (v := zau _ _ _ _ _ _ _ _) hst zaM rfl rfl .u0 fun w hst => ?_)
  refine AB rfl <| NL <| zai Tryz.func90 rfl (zal (vs := zaC _ _ _ _ _ _ _ _) rfl zaM rfl rfl (zac (n := 8) (hst.objL Q0) _ rfl)) (TP (v := .bool _) rfl) ?_
  subst g37
  have e : zbv 82 = some ⟨82, [79, 112, 67, 111, 109, 112, 111, 115, 105, 116, 101, 73, 110, 115, 101, 114, 116], true, true, [105, 105], [110], 0, 8⟩ := by decide +kernel
  rw [e]
  exact ⟨rfl, hst.pure⟩
 refine SR <| CN <| zak rfl rfl <| AB rfl <| NL <| zaj [(0, .int .u16 _), (2, Pp _ _), (4, .int .u16 _), (153, .bool _)] E4 fun f => zab rfl (fun g38 => ?_) (fun g38 => ?_)
 ·refine SR <| MH rfl <| CN <| zaG za4 rfl rfl rfl rfl rfl rfl rfl rfl rfl <| Ret.det (zaF _ _ _ _ _ _ _ _ _) hst fun w hst => CN (SO (v := zau _ _ _ _ _ _ _ _) hst zaM rfl rfl .u0 fun w hst => ?_)
  refine AB rfl <| NL <| zai Tryz.func90 rfl (zal (vs := zaC _ _ _ _ _ _ _ _) rfl zaM rfl rfl (zac (n := 8) (hst.objL Q0) _ rfl)) (TP (v := .bool _) rfl) ?_
  subst g38
  have e : zbv 83 = some ⟨83, [79, 112, 67, 111, 112, 121, 79, 98, 106, 101, 99, 116], true, true, [105], [], 0, 8⟩ := by decide +kernel
  rw [e]
  exact ⟨rfl, hst.pure⟩
 refine SR <| CN <| zak rfl rfl <| AB rfl <| NL <| zab rfl (fun g39 => ?_) (fun g39 => ?_)
 ·refine SR <| MH rfl <| CN <| zaG za4 rfl rfl rfl rfl rfl rfl rfl rfl rfl <| Ret.det (zaF _ _ _ _ _ _ _ _ _) hst fun w hst => CN (SO (v := zau _ _ _ _ _ _ _ _) hst zaM rfl rfl .u0 fun w hst => ?_)
  refine AB rfl <| NL <| zai Tryz.func90 rfl (zal (vs := zaC _ _ _ _ _ _ _ _) rfl zaM rfl rfl (zac (n := 8) (hst.objL Q0) _ rfl)) (TP (v := .bool _) rfl) ?_
  subst g39
  have e : zbv 124 = some ⟨124, [79, 112, 66, 105, 116, 99, 97, 115, 116], true, true, [105], [], 0, 8⟩ := by decide +kernel
  rw [e]
  exact ⟨rfl, hst.pure⟩
 refine SR <| CN <| zak rfl rfl <| AB rfl <| NL <| zab rfl (fun g40 => ?_) (fun g40 => ?_)
 ·refine SR <| MH rfl <| CN <| zaG za4 rfl rfl rfl rfl rfl rfl rfl rfl rfl <| Ret.det (zaF _ _ _ _ _ _ _ _ _) hst fun w hst => CN (SO (v := zau _ _ _ _ _ _ _ _) hst zaM rfl rfl .u0 fun w hst => ?_)
  refine AB rfl <| NL <| zai Tryz.func90 rfl (zal (vs := zaC _ _ _ _ _ _ _ _) rfl zaM rfl rfl (zac (n := 8) (hst.objL Q0) _ rfl)) (TP (v := .bool _) rfl) ?_
  subst g40
  have e : zbv 126 = some ⟨126, [79, 112, 83, 78, 101, 103, 97, 116, 101], true, true, [105], [], 0, 8⟩ := by decide +kernel
  rw [e]
  exact ⟨rfl, hst.pure⟩
 refine SR <| CN <| zak rfl rfl <| AB rfl <| NL <| zab rfl (fun g41 => ?_) (fun g41 => ?_)
 ·refine SR <| MH rfl <| CN <| zaG za4 rfl rfl rfl rfl rfl rfl rfl rfl rfl <| Ret.det (zaF _ _ _ _ _ _ _ _ _) hst fun w hst => CN (SO (v := zau _ _ _ _ _ _ _ _) hst zaM rfl rfl .u0 fun w hst => ?_)
  refine AB rfl <| NL <| zai Tryz.func90 rfl (zal (vs := zaC _ _ _ _ _ _ _ _) rfl zaM rfl rfl (zac (n := 8) (hst.objL Q0) _ rfl)) (TP (v := .bool _) rfl) ?_
  subst g41
  have e : zbv 128 = some ⟨128, [79, 112, 73, 65, 100, 100], true, true, [105, 105], [], 0, 8⟩ := by decide +kernel
  rw [e]
  exact ⟨rfl, hst.pure⟩
 refine SR <| CN <| zak rfl rfl <| AB rfl <| NL <| zab rfl (fun g42 => ?_) (fun g42 => ?_)
 ·refine SR <| MH rfl <| CN <| zaG za4 rfl rfl rfl rfl rfl rfl rfl rfl rfl <| Ret.det (zaF _ _ _ _ _ _ _ _ _) hst fun w hst => CN (SO (v := zau _ _ _ _ _ _ _ _) hst zaM rfl rfl .u0 fun w hst => ?_)
  refine AB rfl <| NL <| zai Tryz.func90 rfl (zal (vs := zaC _ _ _ _ _ _ _ _) rfl zaM rfl rfl (zac (n := 8) (hst.objL Q0) _ rfl)) (TP (v := .bool _) rfl) ?_
  subst g42
  have e : zbv 130 = some ⟨130, [79, 112, 73, 83, 117, 98], true, true, [105, 105], [], 0, 8⟩ := by decide +kernel
  rw [e]
  exact ⟨rfl, hst.pure⟩
 refine SR <| CN <| zak rfl rfl <| AB rfl <| NL <| zab rfl (fun g43 => ?_) (fun g43 => ?_)
 ·refine SR <| MH rfl <| CN <| zaG za4 rfl rfl rfl rfl rfl rfl rfl rfl rfl <| Ret.det (zaF _ _ _ _ _ _ _ _ _) hst fun w hst => CN (SO (v := zau _ _ _ _ _ _ _ _) hst zaM rfl rfl .u0 fun w hst => ?_)
  refine AB rfl <| NL <| zai Tryz.func90 rfl (zal (vs := zaC _ _ _ _ _ _ _ _) rfl zaM rfl rfl (zac (n := 8) (hst.objL Q0) _ rfl)) (TP (v := .bool _) rfl) ?_
  subst g43
  have e : zbv 132 = some ⟨132, [79, 112, 73, 77, 117, 108], true, true, [105, 105], [], 0, 8⟩ := by decide +kernel
  rw [e]
  exact ⟨rfl, hst.pure⟩
 refine SR <| CN <| zak rfl rfl <| AB rfl <| NL <| zab rfl (fun g44 => ?_) (fun g44 => ?_)
 ·refine SR <| MH rfl <| CN <| zaG za4 rfl rfl rfl rfl rfl rfl rfl rfl rfl <| Ret.det (zaF _ _ _ _ _ _ _ _ _) hst fun w hst => CN (SO (v := zau _ _ _ _ _ _ _ _) hst zaM rfl rfl .u0 fun w hst => ?_)
  refine AB rfl <| NL <| zai Tryz.func90 rfl (zal (vs := zaC _ _ _ _ _ _ _ _) rfl zaM rfl rfl (zac (n := 8) (hst.objL Q0) _ rfl)) (TP (v := .bool _) rfl) ?_
  subst g44
  have e : zbv 134 = some ⟨134, [79, 112, 85, 68, 105, 118], true, true, [105, 105], [], 0, 8⟩ := by decide +kernel
  rw [e]
  exact ⟨rfl, hst.pure⟩
 refine SR <| CN <| zak rfl rfl <| AB rfl <| NL <| zab rfl (fun g45 => ?_) (fun g45 => ?_)
 ·refine SR <| MH rfl <| CN <| zaG za4 rfl rfl rfl rfl rfl rfl rfl rfl rfl <| Ret.det (zaF _ _ _ _ _ _ _ _ _) hst fun w hst => CN (SO (v := zau _ _ _ _ _ _ _ _) hst zaM rfl rfl .u0 fun w hst => ?_)
  refine AB rfl <| NL <| zai Tryz.func90 rfl (zal (vs := zaC _ _ _ _ _ _ _ _) rfl zaM rfl rfl (zac (n := 8) (hst.objL Q0) _ rfl)) (TP (v := .bool _) rfl) ?_
  subst g45
  have e : zbv 135 = some ⟨135, [79, 112, 83, 68, 105, 118], true, true, [105, 105], [], 0, 8⟩ := by decide +kernel
  rw [e]
  exact ⟨rfl, hst.pure⟩
 refine SR <| CN <| zak rfl rfl <| AB rfl <| NL <| zab rfl (fun g46 => ?_) (fun g46 => ?_)
 ·refine SR <| MH rfl <| CN <| zaG za4 rfl rfl rfl rfl rfl rfl rfl rfl rfl <| Ret.det (zaF _ _ _ _ _ _ _ _ _) hst fun w hst => CN (SO (v := zau _ _ _ _ _ _ _ _) hst zaM rfl rfl .u0 fun w hst => ?_)
  refine AB rfl <| NL <| zai Tryz.func90 rfl (zal (vs := zaC _ _ _ _ _ _ _ _) rfl zaM rfl rfl (zac (n := 8) (hst.objL Q0) _ rfl)) (TP (v := .bool _) rfl) ?_
  subst g46
  have e : zbv 137 = some ⟨137, [79, 112, 85, 77, 111, 100], true, true, [105, 105], [], 0, 8⟩ := by decide +kernel
  rw [e]
  exact ⟨rfl, hst.pure⟩
 refine SR <| CN <| zak rfl rfl <| AB rfl <| NL <| zab rfl (fun g47 => ?_) (fun g47 => ?_)
 ·refine SR <| MH rfl <| CN <| zaG za4 rfl rfl rfl rfl rfl rfl rfl rfl rfl <| Ret.det (zaF _ _ _ _ _ _ _ _ _) hst fun w hst => CN (SO (v := zau _ _ _ _ _ _ _ _) hst zaM rfl rfl .u0 fun w hst => ?_)
  refine AB rfl <| NL <| zai Tryz.func90 rfl (zal (vs := zaC _ _ _ _ _ _ _ _) rfl zaM rfl rfl (zac (n := 8) (hst.objL Q0) _ rfl)) (TP (v := .bool _) rfl) ?_
  subst g47
  have e : zbv 138 = some ⟨138, [79, 112, 83, 82, 101, 109], true, true, [105, 105], [], 0, 8⟩ := by decide +kernel
  rw [e]
  exact ⟨rfl, hst.pure⟩
 refine SR <| CN <| zak rfl rfl <| AB rfl <| NL <| zaj [(0, .int .u16 _), (2, Pp _ _), (4, .int .u16 _), (193, .bool _)] E4 fun f => zab rfl (fun g48 => ?_) (fun g48 => ?_)
 ·refine SR <| MH rfl <| CN <| zaG za4 rfl rfl rfl rfl rfl rfl rfl rfl rfl <| Ret.det (zaF _ _ _ _ _ _ _ _ _) hst fun w hst => CN (SO (v := zau _ _ _ _ _ _ _ _) hst zaM rfl rfl .u0 fun w hst => ?_)
  refine AB rfl <| NL <| zai Tryz.func90 rfl (zal (vs := zaC _ _ _ _ _ _ _ _) rfl zaM rfl rfl (zac (n := 8) (hst.objL Q0) _ rfl)) (TP (v := .bool _) rfl) ?_
  subst g48
  have e : zbv 139 = some ⟨139, [79, 112, 83, 77, 111, 100], true, true, [105, 105], [], 0, 8⟩ := by decide +kernel
  rw [e]
  exact ⟨rfl, hst.pure⟩
 refine SR <| CN <| zak rfl rfl <| AB rfl <| NL <| zab rfl (fun g49 => ?_) (fun g49 => ?_)
 ·refine SR <| MH rfl <| CN <| zaG za4 rfl rfl rfl rfl rfl rfl rfl rfl rfl <| Ret.det (zaF _ _ _ _ _ _ _ _ _) hst fun w hst => CN (SO (v := zau _ _ _ _ _ _ _ _) hst zaM rfl rfl .u0 fun w hst => ?_)
  refine AB rfl <| NL <| zai Tryz.func90 rfl (zal (vs := zaC _ _ _ _ _ _ _ _) rfl zaM rfl rfl (zac (n := 8) (hst.objL Q0) _ rfl)) (TP (v := .bool _) rfl) ?_
  subst g49
  have e : zbv 149 = some ⟨149, [79, 112, 73, 65, 100, 100, 67, 97, 114, 114, 121], true, true, [105, 105], [], 0, 8⟩ := by decide +kernel
  rw [e]
  exact ⟨rfl, hst.pure⟩
 refine SR <| CN <| zak rfl rfl <| AB rfl <| NL <| zab rfl (fun g50 => ?_) (fun g50 => ?_)
 ·refine SR <| MH rfl <| CN <| zaG za4 rfl rfl rfl rfl rfl rfl rfl rfl rfl <| Ret.det (zaF _ _ _ _ _ _ _ _ _) hst fun w hst => CN (SO (v := zau _ _ _ _ _ _ _ _) hst zaM rfl rfl .u0 fun w hst => ?_)
  refine AB rfl <| NL <| zai Tryz.func90 rfl (zal (vs := zaC _ _ _ _ _ _ _ _) rfl zaM rfl rfl (zac (n := 8) (hst.objL Q0) _ rfl)) (TP (v := .bool _) rfl) ?_
  subst g50
  have e : zbv 150 = some ⟨150, [79, 112, 73, 83, 117, 98, 66, 111, 114, 114, 111, 119], true, true, [105, 105], [], 0, 8⟩ := by decide +kernel
  rw [e]
  exact ⟨rfl, hst.pure⟩
 refine SR <| CN <| zak rfl rfl <| AB rfl <| NL <| zab rfl (fun g51 => ?_) (fun g51 => ?_)
 ·refine SR <| MH rfl <| CN <| zaG za4 rfl rfl rfl rfl rfl rfl rfl rfl rfl <| Ret.det (zaF _ _ _ _ _ _ _ _ _) hst fun w hst => CN (SO (v := zau _ _ _ _ _ _ _ _) hst zaM rfl rfl .u0 fun w hst => ?_)
  refine AB rfl <| NL <| zai Tryz.func90 rfl (zal (vs := zaC _ _ _ _ _ _ _ _) rfl zaM rfl rfl (zac (n := 8) (hst.objL Q0) _ rfl)) (TP (v := .bool _) rfl) ?_
  subst g51
  have e : zbv 151 = some ⟨151, [79, 112, 85, 77, 117, 108, 69, 120, 116, 101, 110, 100, 101, 100], true, true, [105, 105], [], 0, 8⟩ := by decide +kernel
  rw [e]
  exact ⟨rfl, hst.pure⟩
 refine SR <| CN <| zak rfl rfl <| AB rfl <| NL <| zab rfl (fun g52 => ?_) (fun g52 => ?_)
 ·refine SR <| MH rfl <| CN <| zaG za4 rfl rfl rfl rfl rfl rfl rfl rfl rfl <| Ret.det (zaF _ _ _ _ _ _ _ _ _) hst fun w hst => CN (SO (v := zau _ _ _ _ _ _ _ _) hst zaM rfl rfl .u0 fun w hst => ?_)
  refine AB rfl <| NL <| zai Tryz.func90 rfl (zal (vs := zaC _ _ _ _ _ _ _ _) rfl zaM rfl rfl (zac (n := 8) (hst.objL Q0) _ rfl)) (TP (v := .bool _) rfl) ?_
  subst g52
  have e : zbv 152 = some ⟨152, [79, 112, 83, 77, 117, 108, 69, 120, 116, 101, 110, 100, 101, 100], true, true, [105, 105], [], 0, 8⟩ := by decide +kernel
  rw [e]
  exact ⟨rfl, hst.pure⟩
 refine SR <| CN <| zak rfl rfl <| AB rfl <| NL <| zab rfl (fun g53 => ?_) (fun g53 => ?_)
 ·refine SR <| MH rfl <| CN <| zaG za4 rfl rfl rfl rfl rfl rfl rfl rfl rfl <| Ret.det (zaF _ _ _ _ _ _ _ _ _) hst fun w hst => CN (SO (v := zau _ _ _ _ _ _ _ _) hst zaM rfl rfl .u0 fun w hst => ?_)
  refine AB rfl <| NL <| zai Tryz.func90 rfl (zal (vs := zaC _ _ _ _ _ _ _ _) rfl zaM rfl rfl (zac (n := 8) (hst.objL Q0) _ rfl)) (TP (v := .bool _) rfl) ?_
  subst g53
  have e : zbv 154 = some ⟨154, [79, 112, 65, 110, 121], true, true, [105], [], 0, 8⟩ := by decide +kernel
  rw [e]
  exact ⟨rfl, hst.pure⟩
 refine SR <| CN <| zak rfl rfl <| AB rfl <| NL <| zab rfl (fun g54 => ?_) (fun g54 => ?_)
 ·refine SR <| MH rfl <| CN <| zaG za4 rfl rfl rfl rfl rfl rfl rfl rfl rfl <| Ret.det (zaF _ _ _ _ _ _ _ _ _) hst fun w hst => CN (SO (v := zau _ _ _ _ _ _ _ _) hst zaM rfl rfl .u0 fun w hst => ?_)
  refine AB rfl <| NL <| zai Tryz.func90 rfl (zal (vs := zaC _ _ _ _ _ _ _ _) rfl zaM rfl rfl (zac (n := 8) (hst.objL Q0) _ rfl)) (TP (v := .bool _) rfl) ?_
  subst g54
  have e : zbv 155 = some ⟨155, [79, 112, 65, 108, 108], true, true, [105], [], 0, 8⟩ := by decide +kernel
  rw [e]
  exact ⟨rfl, hst.pure⟩
 refine SR <| CN <| zak rfl rfl <| AB rfl <| NL <| zab rfl (fun g55 => ?_) (fun g55 => ?_)
 ·refine SR <| MH rfl <| CN <| zaG za4 rfl rfl rfl rfl rfl rfl rfl rfl rfl <| Ret.det (zaF _ _ _ _ _ _ _ _ _) hst fun w hst => CN (SO (v := zau _ _ _ _ _ _ _ _) hst zaM rfl rfl .u0 fun w hst => ?_)
  refine AB rfl <| NL <| zai Tryz.func90 rfl (zal (vs := zaC _ _ _ _ _ _ _ _) rfl zaM rfl rfl (zac (n := 8) (hst.objL Q0) _ rfl)) (TP (v := .bool _) rfl) ?_
  subst g55
  have e : zbv 164 = some ⟨164, [79, 112, 76, 111, 103, 105, 99, 97, 108, 69, 113, 117, 97, 108], true, true, [105, 105], [], 0, 8⟩ := by decide +kernel
  rw [e]
  exact ⟨rfl, hst.pure⟩
 refine SR <| CN <| zak rfl rfl <| AB rfl <| NL <| zab rfl (fun g56 => ?_) (fun g56 => ?_)
 ·refine SR <| MH rfl <| CN <| zaG za4 rfl rfl rfl rfl rfl rfl rfl rfl rfl <| Ret.det (zaF _ _ _ _ _ _ _ _ _) hst fun w hst => CN (SO (v := zau _ _ _ _ _ _ _ _) hst zaM rfl rfl .u0 fun w hst => ?_)
  refine AB rfl <| NL <| zai Tryz.func90 rfl (zal (vs := zaC _ _ _ _ _ _ _ _) rfl zaM rfl rfl (zac (n := 8) (hst.objL Q0) _ rfl)) (TP (v := .bool _) rfl) ?_
  subst g56
  have e : zbv 165 = some ⟨165, [79, 112, 76, 111, 103, 105, 99, 97, 108, 78, 111, 116, 69, 113, 117, 97, 108], true, true, [105, 105], [], 0, 8⟩ := by decide +kernel
  rw [e]
  exact ⟨rfl, hst.pure⟩
 refine SR <| CN <| zak rfl rfl <| AB rfl <| NL <| zab rfl (fun g57 => ?_) (fun g57 => ?_)
 ·refine SR <| MH rfl <| CN <| zaG za4 rfl rfl rfl rfl rfl rfl rfl rfl rfl <| Ret.det (zaF _ _ _ _ _ _ _ _ _) hst fun w hst => CN (SO (v := zau _ _ _ _ _ _ _ _) hst zaM rfl rfl .u0 fun w hst => ?_)
  refine AB rfl <| NL <| zai Tryz.func90 rfl (zal (vs := zaC _ _ _ _ _ _ _ _) rfl zaM rfl rfl (zac (n := 8) (hst.objL Q0) _ rfl)) (TP (v := .bool _) rfl) ?_
  subst g57
  have e : zbv 166 = some ⟨166, [79, 112, 76, 111, 103, 105, 99, 97, 108, 79, 114], true, true, [105, 105], [], 0, 8⟩ := by decide +kernel
  rw [e]
  exact ⟨rfl, hst.pure⟩
 refine SR <| CN <| zak rfl rfl <| AB rfl <| NL <| zaj [(0, .int .u16 _), (2, Pp _ _), (4, .int .u16 _), (233, .bool _)] E4 fun f => zab rfl (fun g58 => ?_) (fun g58 => ?_)
 ·refine SR <| MH rfl <| CN <| zaG za4 rfl rfl rfl rfl rfl rfl rfl rfl rfl <| Ret.det (zaF _ _ _ _ _ _ _ _ _) hst fun w hst => CN (SO (v := zau _ _ _ _ _ _ _ _) hst zaM rfl rfl .u0 fun w hst => ?_)
  refine AB rfl <| NL <| zai Tryz.func90 rfl (zal (vs := zaC _ _ _ _ _ _ _ _) rfl zaM rfl rfl (zac (n := 8) (hst.objL Q0) _ rfl)) (TP (v := .bool _) rfl) ?_
  subst g58
  have e : zbv 167 = some ⟨167, [79, 112, 76, 111, 103, 105, 99, 97, 108, 65, 110, 100], true, true, [105, 105], [], 0, 8⟩ := by decide +kernel
  rw [e]
  exact ⟨rfl, hst.pure⟩
 refine SR <| CN <| zak rfl rfl <| AB rfl <| NL <| zab rfl (fun g59 => ?_) (fun g59 => ?_)
 ·refine SR <| MH rfl <| CN <| zaG za4 rfl rfl rfl rfl rfl rfl rfl rfl rfl <| Ret.det (zaF _ _ _ _ _ _ _ _ _) hst fun w hst => CN (SO (v := zau _ _ _ _ _ _ _ _) hst zaM rfl rfl .u0 fun w hst => ?_)
  refine AB rfl <| NL <| zai Tryz.func90 rfl (zal (vs := zaC _ _ _ _ _ _ _ _) rfl zaM rfl rfl (zac (n := 8) (hst.objL Q0) _ rfl)) (TP (v := .bool _) rfl) ?_
  subst g59
  have e : zbv 168 = some ⟨168, [79, 112, 76, 111, 103, 105, 99, 97, 108, 78, 111, 116], true, true, [105], [], 0, 8⟩ := by decide +kernel
  rw [e]
  exact ⟨rfl, hst.pure⟩
 refine SR <| CN <| zak rfl rfl <| AB rfl <| NL <| zab rfl (fun g60 => ?_) (fun g60 => ?_)
 ·refine SR <| MH rfl <| CN <| zaG za4 rfl rfl rfl rfl rfl rfl rfl rfl rfl <| Ret.det (zaF _ _ _ _ _ _ _ _ _) hst fun w hst => CN (SO (v := zau _ _ _ _ _ _ _ _) hst zaM rfl rfl .u0 fun w hst => ?_)
  refine AB rfl <| NL <| zai Tryz.func90 rfl (zal (vs := zaC _ _ _ _ _ _ _ _) rfl zaM rfl rfl (zac (n := 8) (hst.objL Q0) _ rfl)) (TP (v := .bool _) rfl) ?_
  subst g60
  have e : zbv 169 = some ⟨169, [79, 112, 83, 101, 108, 101, 99, 116], true, true, [105, 105, 105], [], 0, 8⟩ := by decide +kernel
  rw [e]
  exact ⟨rfl, hst.pure⟩
 refine SR <| CN <| zak rfl rfl <| AB rfl <| NL <| zab rfl (fun g61 => ?_) (fun g61 => ?_)
 ·refine SR <| MH rfl <| CN <| zaG za4 rfl rfl rfl rfl rfl rfl rfl rfl rfl <| Ret.det (zaF _ _ _ _ _ _ _ _ _) hst fun w hst => CN (SO (v := zau _ _ _ _ _ _ _ _) hst zaM rfl rfl .u0 fun w hst => ?_)
  refine AB rfl <| NL <| zai Tryz.func90 rfl (zal (vs := zaC _ _ _ _ _ _ _ _) rfl zaM rfl rfl (zac (n := 8) (hst.objL Q0) _ rfl)) (TP (v := .bool _) rfl) ?_
  subst g61
  have e : zbv 170 = some ⟨170, [79, 112, 73, 69, 113, 117, 97, 108], true, true, [105, 105], [], 0, 8⟩ := by decide +kernel
  rw [e]
  exact ⟨rfl, hst.pure⟩
 refine SR <| CN <| zak rfl rfl <| AB rfl <| NL <| zab rfl (fun g62 => ?_) (fun g62 => ?_)
 ·refine SR <| MH rfl <| CN <| zaG za4 rfl rfl rfl rfl rfl rfl rfl rfl rfl <| Ret.det (zaF _ _ _ _ _ _ _ _ _) hst fun w hst => CN (SO (v := zau _ _ _ _ _ _ _ _) hst zaM rfl rfl .u0 fun w hst => ?_)
  refine AB rfl <| NL <| zai Tryz.func90 rfl (zal (vs := zaC _ _ _ _ _ _ _ _) rfl zaM rfl rfl (zac (n := 8) (hst.objL Q0) _ rfl)) (TP (v := .bool _) rfl) ?_
  subst g62
  have e : zbv 171 = some ⟨171, [79, 112, 73, 78, 111, 116, 69, 113, 117, 97, 108], true, true, [105, 105], [], 0, 8⟩ := by decide +kernel
  rw [e]
  exact ⟨rfl, hst.pure⟩
 refine SR <| CN <| zak rfl rfl <| AB rfl <| NL <| zab rfl (fun g63 => ?_) (fun g63 => ?_)
 ·refine SR <| MH rfl <| CN <| zaG za4 rfl rfl rfl rfl rfl rfl rfl rfl rfl <| Ret.det (zaF _ _ _ _ _ _ _ _ _) hst fun w hst => CN (SO (v := zau _ _ _ _ _ _ _ _) hst zaM rfl rfl .u0 fun w hst => ?_)
  refine AB rfl <| NL <| zai Tryz.func90 rfl (zal (vs := zaC _ _ _ _ _ _ _ _) rfl zaM rfl rfl (zac (n := 8) (hst.objL Q0) _ rfl)) (TP (v := .bool _) rfl) ?_
  subst g63
  have e : zbv 172 = some ⟨172, [79, 112, 85, 71, 114, 101, 97, 116, 101, 114, 84, 104, 97, 110], true, true, [105, 105], [], 0, 8⟩ := by decide +kernel
  rw [e]
  exact ⟨rfl, hst.pure⟩
 refine SR <| CN <| zak rfl rfl <| AB rfl <| NL <| zab rfl (fun g64 => ?_) (fun g64 => ?_)
 ·refine SR <| MH rfl <| CN <| zaG za4 rfl rfl rfl rfl rfl rfl rfl rfl rfl <| Ret.det (zaF _ _ _ _ _ _ _ _ _) hst fun w hst => CN (SO (v := zau _ _ _ _ _ _ _ _) hst zaM rfl rfl .u0 fun w hst => ?_)
  refine AB rfl <| NL <| zai Tryz.func90 rfl (zal (vs := zaC _ _ _ _ _ _ _ _) rfl zaM rfl rfl (zac (n := 8) (hst.objL Q0) _ rfl)) (TP (v := .bool _) rfl) ?_
  subst g64
  have e : zbv 173 = some ⟨173, [79, 112, 83, 71, 114, 101, 97, 116, 101, 114, 84, 104, 97, 110], true, true, [105, 105], [], 0, 8⟩ := by decide +kernel
  rw [e]
  exact ⟨rfl, hst.pure⟩
 refine SR <| CN <| zak rfl rfl <| AB rfl <| NL <| zab rfl (fun g65 => ?_) (fun g65 => ?_)
 ·refine SR <| MH rfl <| CN <| zaG za4 rfl rfl rfl rfl rfl rfl rfl rfl rfl <| Ret.det (zaF _ _ _ _ _ _ _ _ _) hst fun w hst => CN (SO (v := zau _ _ _ _ _ _ _ _) hst zaM rfl rfl .u0 fun w hst => ?_)
  refine AB rfl <| NL <| zai Tryz.func90 rfl (zal (vs := zaC _ _ _ _ _ _ _ _) rfl zaM rfl rfl (zac (n := 8) (hst.objL Q0) _ rfl)) (TP (v := .bool _) rfl) ?_
  subst g65
  have e : zbv 174 = some ⟨174, [79, 112, 85, 71, 114, 101, 97, 116, 101, 114, 84, 104, 97, 110, 69, 113, 117, 97, 108], true, true, [105, 105], [], 0, 8⟩ := by decide +kernel
  rw [e]
  exact ⟨rfl, hst.pure⟩
 refine SR <| CN <| zak rfl rfl <| AB rfl <| NL <| zab rfl (fun g66 => ?_) (fun g66 => ?_)
 ·refine SR <| MH rfl <| CN <| zaG za4 rfl rfl rfl rfl rfl rfl rfl rfl rfl <| Ret.det (zaF _ _ _ _ _ _ _ _ _) hst fun w hst => CN (SO (v := zau _ _ _ _ _ _ _ _) hst zaM rfl rfl .u0 fun w hst => ?_)
  refine AB rfl <| NL <| zai Tryz.func90 rfl (zal (vs := zaC _ _ _ _ _ _ _ _) rfl zaM rfl rfl (zac (n := 8) (hst.objL Q0) _ rfl)) (TP (v := .bool _) rfl) ?_
  subst g66
  have e : zbv 175 = some ⟨175, [79, 112, 83, 71, 114, 101, 97, 116, 101, 114, 84, 104, 97, 110, 69, 113, 117, 97, 108], true, true, [105, 105], [], 0, 8⟩ := by decide +kernel
  rw [e]
  exact ⟨rfl, hst.pure⟩
 refine SR <| CN <| zak rfl rfl <| AB rfl <| NL <| zab rfl (fun g67 => ?_) (fun g67 => ?_)
 ·refine SR <| MH rfl <| CN <| zaG za4 rfl rfl rfl rfl rfl rfl rfl rfl rfl <| Ret.det (zaF _ _ _ _ _ _ _ _ _) hst fun w hst => CN (SO (v := zau _ _ _ _ _ _ _ _) hst zaM rfl rfl .u0 fun w hst => ?_)
  refine AB rfl <| NL <| zai Tryz.func90 rfl (zal (vs := zaC _ _ _ _ _ _ _ _) rfl zaM rfl rfl (zac (n := 8) (hst.objL Q0) _ rfl)) (TP (v := .bool _) rfl) ?_
  subst g67
  have e : zbv 176 = some ⟨176, [79, 112, 85, 76, 101, 115, 115, 84, 104, 97, 110], true, true, [105, 105], [], 0, 8⟩ := by decide +kernel
  rw [e]
  exact ⟨rfl, hst.pure⟩
 refine SR <| CN <| zak rfl rfl <| AB rfl <| NL <| zaj [(0, .int .u16 _), (2, Pp _ _), (4, .int .u16 _), (273, .bool _)] E4 fun f => zab rfl (fun g68 => ?_) (fun g68 => ?_)
 ·refine SR <| MH rfl <| CN <| zaG za4 rfl rfl rfl rfl rfl rfl rfl rfl rfl <| Ret.det (zaF _ _ _ _ _ _ _ _ _) hst fun w hst => CN (SO (v := zau _ _ _ _ _ _ _ _) hst zaM rfl rfl .u0 fun w hst => ?_)
  refine AB rfl <| NL <| zai Tryz.func90 rfl (zal (vs := zaC _ _ _ _ _ _ _ _) rfl zaM rfl rfl (zac (n := 8) (hst.objL Q0) _ rfl)) (TP (v := .bool _) rfl) ?_
  subst g68
  have e : zbv 177 = some ⟨177, [79, 112, 83, 76, 101, 115, 115, 84, 104, 97, 110], true, true, [105, 105], [], 0, 8⟩ := by decide +kernel
  rw [e]
  exact ⟨rfl, hst.pure⟩
 refine SR <| CN <| zak rfl rfl <| AB rfl <| NL <| zab rfl (fun g69 => ?_) (fun g69 => ?_)
 ·refine SR <| MH rfl <| CN <| zaG za4 rfl rfl rfl rfl rfl rfl rfl rfl rfl <| Ret.det (zaF _ _ _ _ _ _ _ _ _) hst fun w hst => CN (SO (v := zau _ _ _ _ _ _ _ _) hst zaM rfl rfl .u0 fun w hst => ?_)
  refine AB rfl <| NL <| zai Tryz.func90 rfl (zal (vs := zaC _ _ _ _ _ _ _ _) rfl zaM rfl rfl (zac (n := 8) (hst.objL Q0) _ rfl)) (TP (v := .bool _) rfl) ?_
  subst g69
  have e : zbv 178 = some ⟨178, [79, 112, 85, 76, 101, 115, 115, 84, 104, 97, 110, 69, 113, 117, 97, 108], true, true, [105, 105], [], 0, 8⟩ := by decide +kernel
  rw [e]
  exact ⟨rfl, hst.pure⟩
 refine SR <| CN <| zak rfl rfl <| AB rfl <| NL <| zab rfl (fun g70 => ?_) (fun g70 => ?_)
 ·refine SR <| MH rfl <| CN <| zaG za4 rfl rfl rfl rfl rfl rfl rfl rfl rfl <| Ret.det (zaF _ _ _ _ _ _ _ _ _) hst fun w hst => CN (SO (v := zau _ _ _ _ _ _ _ _) hst zaM rfl rfl .u0 fun w hst => ?_)
  refine AB rfl <| NL <| zai Tryz.func90 rfl (zal (vs := zaC _ _ _ _ _ _ _ _) rfl zaM rfl rfl (zac (n := 8) (hst.objL Q0) _ rfl)) (TP (v := .bool _) rfl) ?_
  subst g70
  have e : zbv 179 = some ⟨179, [79, 112, 83, 76, 101, 115, 115, 84, 104, 97, 110, 69, 113, 117, 97, 108], true, true, [105, 105], [], 0, 8⟩ := by decide +kernel
  rw [e]
  exact ⟨rfl, hst.pure⟩
 refine SR <| CN <| zak rfl rfl <| AB rfl <| NL <| zab rfl (fun g71 => ?_) (fun g71 => ?_)
 ·refine SR <| MH rfl <| CN <| zaG za4 rfl rfl rfl rfl rfl rfl rfl rfl rfl <| Ret.det (zaF _ _ _ _ _ _ _ _ _) hst fun w hst => CN (SO (v := zau _ _ _ _ _ _ _ _) hst zaM rfl rfl .u0 fun w hst => ?_)
  refine AB rfl <| NL <| zai Tryz.func90 rfl (zal (vs := zaC _ _ _ _ _ _ _ _) rfl zaM rfl rfl (zac (n := 8) (hst.objL Q0) _ rfl)) (TP (v := .bool _) rfl) ?_
  subst g71
  have e : zbv 194 = some ⟨194, [79, 112, 83, 104, 105, 102, 116, 82, 105, 103, 104, 116, 76, 111, 103, 105, 99, 97, 108], true, true, [105, 105], [], 0, 8⟩ := by decide +kernel
  rw [e]
  exact ⟨rfl, hst.pure⟩
 refine SR <| CN <| zak rfl rfl <| AB rfl <| NL <| zab rfl (fun g72 => ?_) (fun g72 => ?_)
 ·refine SR <| MH rfl <| CN <| zaG za4 rfl rfl rfl rfl rfl rfl rfl rfl rfl <| Ret.det (zaF _ _ _ _ _ _ _ _ _) hst fun w hst => CN (SO (v := zau _ _ _ _ _ _ _ _) hst zaM rfl rfl .u0 fun w hst => ?_)
  refine AB rfl <| NL <| zai Tryz.func90 rfl (zal (vs := zaC _ _ _ _ _ _ _ _) rfl zaM rfl rfl (zac (n := 8) (hst.objL Q0) _ rfl)) (TP (v := .bool _) rfl) ?_
  subst g72
  have e : zbv 195 = some ⟨195, [79, 112, 83, 104, 105, 102, 116, 82, 105, 103, 104, 116, 65, 114, 105, 116, 104, 109, 101, 116, 105, 99], true, true, [105, 105], [], 0, 8⟩ := by decide +kernel
  rw [e]
  exact ⟨rfl, hst.pure⟩
 refine SR <| CN <| zak rfl rfl <| AB rfl <| NL <| zab rfl (fun g73 => ?_) (fun g73 => ?_)
 ·refine SR <| MH rfl <| CN <| zaG za4 rfl rfl rfl rfl rfl rfl rfl rfl rfl <| Ret.det (zaF _ _ _ _ _ _ _ _ _) hst fun w hst => CN (SO (v := zau _ _ _ _ _ _ _ _) hst zaM rfl rfl .u0 fun w hst => ?_)
  refine AB rfl <| NL <| zai Tryz.func90 rfl (zal (vs := zaC _ _ _ _ _ _ _ _) rfl zaM rfl rfl (zac (n := 8) (hst.objL Q0) _ rfl)) (TP (v := .bool _) rfl) ?_
  subst g73
  have e : zbv 196 = some ⟨196, [79, 112, 83, 104, 105, 102, 116, 76, 101, 102, 116, 76, 111, 103, 105, 99, 97, 108], true, true, [105, 105], [], 0, 8⟩ := by decide +kernel
  rw [e]
  exact ⟨rfl, hst.pure⟩
 refine SR <| CN <| zak rfl rfl <| AB rfl <| NL <| zab rfl (fun g74 => ?_) (fun g74 => ?_)
 ·refine SR <| MH rfl <| CN <| zaG za4 rfl rfl rfl rfl rfl rfl rfl rfl rfl <| Ret.det (zaF _ _ _ _ _ _ _ _ _) hst fun w hst => CN (SO (v := zau _ _ _ _ _ _ _ _) hst zaM rfl rfl .u0 fun w hst => ?_)
  refine AB rfl <| NL <| zai Tryz.func90 rfl (zal (vs := zaC _ _ _ _ _ _ _ _) rfl zaM rfl rfl (zac (n := 8) (hst.objL Q0) _ rfl)) (TP (v := .bool _) rfl) ?_
  subst g74
  have e : zbv 197 = some ⟨197, [79, 112, 66, 105, 116, 119, 105, 115, 101, 79, 114], true, true, [105, 105], [], 0, 8⟩ := by decide +kernel
  rw [e]
  exact ⟨rfl, hst.pure⟩
 refine SR <| CN <| zak rfl rfl <| AB rfl <| NL <| zab rfl (fun g75 => ?_) (fun g75 => ?_)
 ·refine SR <| MH rfl <| CN <| zaG za4 rfl rfl rfl rfl rfl rfl rfl rfl rfl <| Ret.det (zaF _ _ _ _ _ _ _ _ _) hst fun w hst => CN (SO (v := zau _ _ _ _ _ _ _ _) hst zaM rfl rfl .u0 fun w hst => ?_)
  refine AB rfl <| NL <| zai Tryz.func90 rfl (zal (vs := zaC _ _ _ _ _ _ _ _) rfl zaM rfl rfl (zac (n := 8) (hst.objL Q0) _ rfl)) (TP (v := .bool _) rfl) ?_
  subst g75
  have e : zbv 198 = some ⟨198, [79, 112, 66, 105, 116, 119, 105, 115, 101, 88, 111, 114], true, true, [105, 105], [], 0, 8⟩ := by decide +kernel
  rw [e]
  exact ⟨rfl, hst.pure⟩
 refine SR <| CN <| zak rfl rfl <| AB rfl <| NL <| zab rfl (fun g76 => ?_) (fun g76 => ?_)
 ·refine SR <| MH rfl <| CN <| zaG za4 rfl rfl rfl rfl rfl rfl rfl rfl rfl <| Ret.det (zaF _ _ _ _ _ _ _ _ _) hst fun w hst => CN (SO (v := zau _ _ _ _ _ _ _ _) hst zaM rfl rfl .u0 fun w hst => ?_)
  refine AB rfl <| NL <| zai Tryz.func90 rfl (zal (vs := zaC _ _ _ _ _ _ _ _) rfl zaM rfl rfl (zac (n := 8) (hst.objL Q0) _ rfl)) (TP (v := .bool _) rfl) ?_
  subst g76
  have e : zbv 199 = some ⟨199, [79, 112, 66, 105, 116, 119, 105, 115, 101, 65, 110, 100], true, true, [105, 105], [], 0, 8⟩ := by decide +kernel
  rw [e]
  exact ⟨rfl, hst.pure⟩
 refine SR <| CN <| zak rfl rfl <| AB rfl <| NL <| zab rfl (fun g77 => ?_) (fun g77 => ?_)
 ·refine SR <| MH rfl <| CN <| zaG za4 rfl rfl rfl rfl rfl rfl rfl rfl rfl <| Ret.det (zaF _ _ _ _ _ _ _ _ _) hst fun w hst => CN (SO (v := zau _ _ _ _ _ _ _ _) hst zaM rfl rfl .u0 fun w hst => ?_)
  refine AB rfl <| NL <| zai Tryz.func90 rfl (zal (vs := zaC _ _ _ _ _ _ _ _) rfl zaM rfl rfl (zac (n := 8) (hst.objL Q0) _ rfl)) (TP (v := .bool _) rfl) ?_
  subst g77
  have e : zbv 200 = some ⟨200, [79, 112, 78, 111, 116], true, true, [105], [], 0, 8⟩ := by decide +kernel
  rw [e]
  exact ⟨rfl, hst.pure⟩
 refine SR <| CN <| zak rfl rfl <| AB rfl <| NL <| zaj [(0, .int .u16 _), (2, Pp _ _), (4, .int .u16 _), (313, .bool _)] E4 fun f => zab rfl (fun g78 => ?_) (fun g78 => ?_)
 ·refine SR <| MH rfl <| CN <| zaG za4 rfl rfl rfl rfl rfl rfl rfl rfl rfl <| Ret.det (zaF _ _ _ _ _ _ _ _ _) hst fun w hst => CN (SO (v := zau _ _ _ _ _ _ _ _) hst zaM rfl rfl .u0 fun w hst => ?_)
  refine AB rfl <| NL <| zai Tryz.func90 rfl (zal (vs := zaC _ _ _ _ _ _ _ _) rfl zaM rfl rfl (zac (n := 8) (hst.objL Q0) _ rfl)) (TP (v := .bool _) rfl) ?_
  subst g78
  have e : zbv 201 = some ⟨201, [79, 112, 66, 105, 116, 70, 105, 101, 108, 100, 73, 110, 115, 101, 114, 116], true, true, [105, 105, 105, 105], [], 0, 8⟩ := by decide +kernel
  rw [e]
  exact ⟨rfl, hst.pure⟩
 refine SR <| CN <| zak rfl rfl <| AB rfl <| NL <| zab rfl (fun g79 => ?_) (fun g79 => ?_)
 ·refine SR <| MH rfl <| CN <| zaG za4 rfl rfl rfl rfl rfl rfl rfl rfl rfl <| Ret.det (zaF _ _ _ _ _ _ _ _ _) hst fun w hst => CN (SO (v := zau _ _ _ _ _ _ _ _) hst zaM rfl rfl .u0 fun w hst => ?_)
  refine AB rfl <| NL <| zai Tryz.func90 rfl (zal (vs := zaC _ _ _ _ _ _ _ _) rfl zaM rfl rfl (zac (n := 8) (hst.objL Q0) _ rfl)) (TP (v := .bool _) rfl) ?_
  subst g79
  have e : zbv 202 = some ⟨202, [79, 112, 66, 105, 116, 70, 105, 101, 108, 100, 83, 69, 120, 116, 114, 97, 99, 116], true, true, [105, 105, 105], [], 0, 8⟩ := by decide +kernel
  rw [e]
  exact ⟨rfl, hst.pure⟩
 refine SR <| CN <| zak rfl rfl <| AB rfl <| NL <| zab rfl (fun g80 => ?_) (fun g80 => ?_)
 ·refine SR <| MH rfl <| CN <| zaG za4 rfl rfl rfl rfl rfl rfl rfl rfl rfl <| Ret.det (zaF _ _ _ _ _ _ _ _ _) hst fun w hst => CN (SO (v := zau _ _ _ _ _ _ _ _) hst zaM rfl rfl .u0 fun w hst => ?_)
  refine AB rfl <| NL <| zai Tryz.func90 rfl (zal (vs := zaC _ _ _ _ _ _ _ _) rfl zaM rfl rfl (zac (n := 8) (hst.objL Q0) _ rfl)) (TP (v := .bool _) rfl) ?_
  subst g80
  have e : zbv 203 = some ⟨203, [79, 112, 66, 105, 116, 70, 105, 101, 108, 100, 85, 69, 120, 116, 114, 97, 99, 116], true, true, [105, 105, 105], [], 0, 8⟩ := by decide +kernel
  rw [e]
  exact ⟨rfl, hst.pure⟩
 refine SR <| CN <| zak rfl rfl <| AB rfl <| NL <| zab rfl (fun g81 => ?_) (fun g81 => ?_)
 ·refine SR <| MH rfl <| CN <| zaG za4 rfl rfl rfl rfl rfl rfl rfl rfl rfl <| Ret.det (zaF _ _ _ _ _ _ _ _ _) hst fun w hst => CN (SO (v := zau _ _ _ _ _ _ _ _) hst zaM rfl rfl .u0 fun w hst => ?_)
  refine AB rfl <| NL <| zai Tryz.func90 rfl (zal (vs := zaC _ _ _ _ _ _ _ _) rfl zaM rfl rfl (zac (n := 8) (hst.objL Q0) _ rfl)) (TP (v := .bool _) rfl) ?_
  subst g81
  have e : zbv 204 = some ⟨204, [79, 112, 66, 105, 116, 82, 101, 118, 101, 114, 115, 101], true, true, [105], [], 0, 8⟩ := by decide +kernel
  rw [e]
  exact ⟨rfl, hst.pure⟩
 refine SR <| CN <| zak rfl rfl <| AB rfl <| NL <| zab rfl (fun g82 => ?_) (fun g82 => ?_)
 ·refine SR <| MH rfl <| CN <| zaG za4 rfl rfl rfl rfl rfl rfl rfl rfl rfl <| Ret.det (zaF _ _ _ _ _ _ _ _ _) hst fun w hst => CN (SO (v := zau _ _ _ _ _ _ _ _) hst zaM rfl rfl .u0 fun w hst => ?_)
  refine AB rfl <| NL <| zai Tryz.func90 rfl (zal (vs := zaC _ _ _ _ _ _ _ _) rfl zaM rfl rfl (zac (n := 8) (hst.objL Q0) _ rfl)) (TP (v := .bool _) rfl) ?_
  subst g82
  have e : zbv 205 = some ⟨205, [79, 112, 66, 105, 116, 67, 111, 117, 110, 116], true, true, [105], [], 0, 8⟩ := by decide +kernel
  rw [e]
  exact ⟨rfl, hst.pure⟩
 refine SR <| CN <| zak rfl rfl <| AB rfl <| NL <| zab rfl (fun g83 => ?_) (fun g83 => ?_)
 ·refine SR <| MH rfl <| CN <| zaG za4 rfl rfl rfl rfl rfl rfl rfl rfl rfl <| Ret.det (zaF _ _ _ _ _ _ _ _ _) hst fun w hst => CN (SO (v := zau _ _ _ _ _ _ _ _) hst zaM rfl rfl .u0 fun w hst => ?_)
  refine AB rfl <| NL <| zai Tryz.func90 rfl (zal (vs := zaC _ _ _ _ _ _ _ _) rfl zaM rfl rfl (zac (n := 8) (hst.objL Q0) _ rfl)) (TP (v := .bool _) rfl) ?_
  subst g83
  have e : zbv 245 = some ⟨245, [79, 112, 80, 104, 105], true, true, [], [105, 105], 0, 8⟩ := by decide +kernel
  rw [e]
  exact ⟨rfl, hst.pure⟩
 refine SR <| CN <| zak rfl rfl <| AB rfl <| NL <| zab rfl (fun g84 => ?_) (fun g84 => ?_)
 ·refine SR <| MH rfl <| CN <| zaG za4 rfl rfl rfl rfl rfl rfl rfl rfl rfl <| Ret.det (zaF _ _ _ _ _ _ _ _ _) hst fun w hst => CN (SO (v := zau _ _ _ _ _ _ _ _) hst zaM rfl rfl .u0 fun w hst => ?_)
  refine AB rfl <| NL <| zai Tryz.func90 rfl (zal (vs := zaC _ _ _ _ _ _ _ _) rfl zaM rfl rfl (zac (n := 8) (hst.objL Q0) _ rfl)) (TP (v := .bool _) rfl) ?_
  subst g84
  have e : zbv 246 = some ⟨246, [79, 112, 76, 111, 111, 112, 77, 101, 114, 103, 101], false, false, [105, 105, 103], [], 0, 8⟩ := by decide +kernel
  rw [e]
  exact ⟨rfl, hst.pure⟩
 refine SR <| CN <| zak rfl rfl <| AB rfl <| NL <| zab rfl (fun g85 => ?_) (fun g85 => ?_)
 ·refine SR <| MH rfl <| CN <| zaG za4 rfl rfl rfl rfl rfl rfl rfl rfl rfl <| Ret.det (zaF _ _ _ _ _ _ _ _ _) hst fun w hst => CN (SO (v := zau _ _ _ _ _ _ _ _) hst zaM rfl rfl .u0 fun w hst => ?_)
  refine AB rfl <| NL <| zai Tryz.func90 rfl (zal (vs := zaC _ _ _ _ _ _ _ _) rfl zaM rfl rfl (zac (n := 8) (hst.objL Q0) _ rfl)) (TP (v := .bool _) rfl) ?_
  subst g85
  have e : zbv 247 = some ⟨247, [79, 112, 83, 101, 108, 101, 99, 116, 105, 111, 110, 77, 101, 114, 103, 101], false, false, [105, 104], [], 0, 8⟩ := by decide +kernel
  rw [e]
  exact ⟨rfl, hst.pure⟩
 refine SR <| CN <| zak rfl rfl <| AB rfl <| NL <| zab rfl (fun g86 => ?_) (fun g86 => ?_)
 ·refine SR <| MH rfl <| CN <| zaG za4 rfl rfl rfl rfl rfl rfl rfl rfl rfl <| Ret.det (zaF _ _ _ _ _ _ _ _ _) hst fun w hst => CN (SO (v := zau _ _ _ _ _ _ _ _) hst zaM rfl rfl .u0 fun w hst => ?_)
  refine AB rfl <| NL <| zai Tryz.func90 rfl (zal (vs := zaC _ _ _ _ _ _ _ _) rfl zaM rfl rfl (zac (n := 8) (hst.objL Q0) _ rfl)) (TP (v := .bool _) rfl) ?_
  subst g86
  have e : zbv 248 = some ⟨248, [79, 112, 76, 97, 98, 101, 108], false, true, [], [], 0, 8⟩ := by decide +kernel
  rw [e]
  exact ⟨rfl, hst.pure⟩
 refine SR <| CN <| zak rfl rfl <| AB rfl <| NL <| zab rfl (fun g87 => ?_) (fun g87 => ?_)
 ·refine SR <| MH rfl <| CN <| zaG za4 rfl rfl rfl rfl rfl rfl rfl rfl rfl <| Ret.det (zaF _ _ _ _ _ _ _ _ _) hst fun w hst => CN (SO (v := zau _ _ _ _ _ _ _ _) hst zaM rfl rfl .u0 fun w hst => ?_)
  refine AB rfl <| NL <| zai Tryz.func90 rfl (zal (vs := zaC _ _ _ _ _ _ _ _) rfl zaM rfl rfl (zac (n := 8) (hst.objL Q0) _ rfl)) (TP (v := .bool _) rfl) ?_
  subst g87
  have e : zbv 249 = some ⟨249, [79, 112, 66, 114, 97, 110, 99, 104], false, false, [105], [], 0, 8⟩ := by decide +kernel
  rw [e]
  exact ⟨rfl, hst.pure⟩
 refine SR <| CN <| zak rfl rfl <| AB rfl <| NL <| zaj [(0, .int .u16 _), (2, Pp _ _), (4, .int .u16 _), (353, .bool _)] E4 fun f => zab rfl (fun g88 => ?_) (fun g88 => ?_)
 ·refine SR <| MH rfl <| CN <| zaG za4 rfl rfl rfl rfl rfl rfl rfl rfl rfl <| Ret.det (zaF _ _ _ _ _ _ _ _ _) hst fun w hst => CN (SO (v := zau _ _ _ _ _ _ _ _) hst zaM rfl rfl .u0 fun w hst => ?_)
  refine AB rfl <| NL <| zai Tryz.func90 rfl (zal (vs := zaC _ _ _ _ _ _ _ _) rfl zaM rfl rfl (zac (n := 8) (hst.objL Q0) _ rfl)) (TP (v := .bool _) rfl) ?_
  subst g88
  have e : zbv 250 = some ⟨250, [79, 112, 66, 114, 97, 110, 99, 104, 67, 111, 110, 100, 105, 116, 105, 111, 110, 97, 108], false, false, [105, 105, 105], [], 0, 8⟩ := by decide +kernel
  rw [e]
  exact ⟨rfl, hst.pure⟩
 refine SR <| CN <| zak rfl rfl <| AB rfl <| NL <| zab rfl (fun g89 => ?_) (fun g89 => ?_)
 ·refine SR <| MH rfl <| CN <| zaG za4 rfl rfl rfl rfl rfl rfl rfl rfl rfl <| Ret.det (zaF _ _ _ _ _ _ _ _ _) hst fun w hst => CN (SO (v := zau _ _ _ _ _ _ _ _) hst zaM rfl rfl .u0 fun w hst => ?_)
  refine AB rfl <| NL <| zai Tryz.func90 rfl (zal (vs := zaC _ _ _ _ _ _ _ _) rfl zaM rfl rfl (zac (n := 8) (hst.objL Q0) _ rfl)) (TP (v := .bool _) rfl) ?_
  subst g89
  have e : zbv 251 = some ⟨251, [79, 112, 83, 119, 105, 116, 99, 104], false, false, [105, 105], [110, 105], 0, 8⟩ := by decide +kernel
  rw [e]
  exact ⟨rfl, hst.pure⟩
 refine SR <| CN <| zak rfl rfl <| AB rfl <| NL <| zab rfl (fun g90 => ?_) (fun g90 => ?_)
 ·refine SR <| MH rfl <| CN <| zaG za4 rfl rfl rfl rfl rfl rfl rfl rfl rfl <| Ret.det (zaF _ _ _ _ _ _ _ _ _) hst fun w hst => CN (SO (v := zau _ _ _ _ _ _ _ _) hst zaM rfl rfl .u0 fun w hst => ?_)
  refine AB rfl <| NL <| zai Tryz.func90 rfl (zal (vs := zaC _ _ _ _ _ _ _ _) rfl zaM rfl rfl (zac (n := 8) (hst.objL Q0) _ rfl)) (TP (v := .bool _) rfl) ?_
  subst g90
  have e : zbv 252 = some ⟨252, [79, 112, 75, 105, 108, 108], false, false, [], [], 0, 8⟩ := by decide +kernel
  rw [e]
  exact ⟨rfl, hst.pure⟩
 refine SR <| CN <| zak rfl rfl <| AB rfl <| NL <| zab rfl (fun g91 => ?_) (fun g91 => ?_)
 ·refine SR <| MH rfl <| CN <| zaG za4 rfl rfl rfl rfl rfl rfl rfl rfl rfl <| Ret.det (zaF _ _ _ _ _ _ _ _ _) hst fun w hst => CN (SO (v := zau _ _ _ _ _ _ _ _) hst zaM rfl rfl .u0 fun w hst => ?_)
  refine AB rfl <| NL <| zai Tryz.func90 rfl (zal (vs := zaC _ _ _ _ _ _ _ _) rfl zaM rfl rfl (zac (n := 8) (hst.objL Q0) _ rfl)) (TP (v := .bool _) rfl) ?_
  subst g91
  have e : zbv 253 = some ⟨253, [79, 112, 82, 101, 116, 117, 114, 110], false, false, [], [], 0, 8⟩ := by decide +kernel
  rw [e]
  exact ⟨rfl, hst.pure⟩
 refine SR <| CN <| zak rfl rfl <| AB rfl <| NL <| zab rfl (fun g92 => ?_) (fun g92 => ?_)
 ·refine SR <| MH rfl <| CN <| zaG za4 rfl rfl rfl rfl rfl rfl rfl rfl rfl <| Ret.det (zaF _ _ _ _ _ _ _ _ _) hst fun w hst => CN (SO (v := zau _ _ _ _ _ _ _ _) hst zaM rfl rfl .u0 fun w hst => ?_)
  refine AB rfl <| NL <| zai Tryz.func90 rfl (zal (vs := zaC _ _ _ _ _ _ _ _) rfl zaM rfl rfl (zac (n := 8) (hst.objL Q0) _ rfl)) (TP (v := .bool _) rfl) ?_
  subst g92
  have e : zbv 254 = some ⟨254, [79, 112, 82, 101, 116, 117, 114, 110, 86, 97, 108, 117, 101], false, false, [105], [], 0, 8⟩ := by decide +kernel
  rw [e]
  exact ⟨rfl, hst.pure⟩
 refine SR <| CN <| zak rfl rfl <| AB rfl <| NL <| zab rfl (fun g93 => ?_) (fun g93 => ?_)
 ·refine SR <| MH rfl <| CN <| zaG za4 rfl rfl rfl rfl rfl rfl rfl rfl rfl <| Ret.det (zaF _ _ _ _ _ _ _ _ _) hst fun w hst => CN (SO (v := zau _ _ _ _ _ _ _ _) hst zaM rfl rfl .u0 fun w hst => ?_)
  refine AB rfl <| NL <| zai Tryz.func90 rfl (zal (vs := zaC _ _ _ _ _ _ _ _) rfl zaM rfl rfl (zac (n := 8) (hst.objL Q0) _ rfl)) (TP (v := .bool _) rfl) ?_
  subst g93
  have e : zbv 255 = some ⟨255, [79, 112, 85, 110, 114, 101, 97, 99, 104, 97, 98, 108, 101], false, false, [], [], 0, 8⟩ := by decide +kernel
  rw [e]
  exact ⟨rfl, hst.pure⟩
 refine zaf <| zam <| SR <| CN (zag zaM zli .nil ?_)
 refine CN (SO (v := zau _ _ _ _ _ _ _ _) hst zaM rfl rfl .u0 fun w hst => ?_)
 refine AB rfl <| NL <| zai Tryz.func90 rfl (zal (vs := zaC _ _ _ _ _ _ _ _) rfl zaM rfl rfl (zac (n := 8) (hst.objL Q0) _ rfl)) (TP (v := .bool _) rfl) ?_
 rw [show zbv op = none from zjZ (by simp only [refT, List.forall_mem_cons]; exact ⟨g1, g2, g3, g4, g5, g6, g7, g8, g9, g10, g11, g12, g13, g14, g15, g16, g17, g18, g19, g20, g21, g22, g23, g24, g25, g26, g27, g28, g29, g30, g31, g32, g33, g34, g35, g36, g37, g38, g39, g40, g41, g42, g43, g44, g45, g46, g47, g48, g49, g50, g51, g52, g53, g54, g55, g56, g57, g58, g59, g60, g61, g62, g63, g64, g65, g66, g67, g68, g69, g70, g71, g72, g73, g74, g75, g76, g77, g78, g79, g80, g81, g82, g83, g84, g85, g86, g87, g88, g89, g90, g91, g92, g93, fun _ h => absurd h List.not_mem_nil⟩)]
 exact ⟨rfl, hst.pure⟩
end Go.SK
namespace Go.SK
open Go Go.Proofs
theorem zbj : TyF Tryz.prog 224 (.struct (zbJ Tryz.prog 224)) 3 24 [.int .u8 0, .int .u32 0, str []] := zbK Kr Kr
theorem zcn : zdL Tryz.prog 224 [(0, 1), (1, 1), (2, 1)] := ⟨zbJ Tryz.prog 224, Kr, fun w => Kr⟩
theorem zbE : TyF Tryz.prog 221 (.slice 224) 1 24 [.slice none 0 0] := zbK Kr Kr
theorem zum : zaN Tryz.prog 148 := ⟨Tryz.f148, _, Tryz.func148, Kr, rfl⟩
theorem zmy : FldF Tryz.prog 224 0 0 := FldF.of (n := 0) Kr
theorem zq1 : FldF Tryz.prog 224 1 1 := FldF.of (n := 0) Kr
theorem zq0 : FldF Tryz.prog 224 2 2 := FldF.of (n := 0) Kr
end Go.SK
namespace Go.SK
open Go Go.Proofs
open Go.RowKit
set_option maxRecDepth 4000 in
theorem zhv  (w : World) : Ret Tryz.prog 148 #[] w (fun v w' => ∃ ao cp, v = .slice ao namesL.length cp ∧ St w NoM [Res.sl ao namesL.length cp 224 3 (namesL.flatMap zmn)] [] w') := by
 refine zav (args := []) Tryz.func148 rfl rfl rfl ?_
 have hst := St.init w
 refine SR <| AL rfl <| NSR <| AL rfl <| NSR <| ML rfl <| CN (zag zbj zcn (.c (v := .int .u8 _) rfl (h := (.c (v := .int .u32 _) rfl (h := (.c (v := str _) rfl (h := .nil)))))) ?_)
 refine CN (zaE (z0 := [.int .u8 0, .int .u32 0, str []]) hst zbE zbj rfl rfl Kr (.c (v := zcy _ _ _) rfl (h := .nil)) fun w b4 hst => ?_)
 replace hst := hst.pushNil 224 3
 refine CN (zaI (news := (zcX _ _ _)) hst zbE zbj rfl rfl .u0 rfl rfl rfl (zac (n := 3) (hst.objL Q1) _ rfl) rfl rfl Om fun w ao1 cp2 hst => ?_)
 replace hst := hst.drop .u1
 refine AL rfl <| NSR <| ML rfl <| CN (zag zbj zcn (.c (v := .int .u8 _) rfl (h := (.c (v := .int .u32 _) rfl (h := (.c (v := str _) rfl (h := .nil)))))) ?_)
 refine CN (zaE (z0 := [.int .u8 0, .int .u32 0, str []]) hst zbE zbj rfl rfl Kr (.c (v := zcy _ _ _) rfl (h := .nil)) fun w b8 hst => ?_)
 refine CN (zaI (news := (zcX _ _ _)) hst zbE zbj rfl rfl .u1 rfl rfl rfl (zac (n := 3) (hst.objL Q0) _ rfl) rfl rfl Om fun w ao3 cp4 hst => ?_)
 replace hst := hst.drop .u1
 refine AL rfl <| NSR <| ML rfl <| CN (zag zbj zcn (.c (v := .int .u8 _) rfl (h := (.c (v := .int .u32 _) rfl (h := (.c (v := str _) rfl (h := .nil)))))) ?_)
 refine CN (zaE (z0 := [.int .u8 0, .int .u32 0, str []]) hst zbE zbj rfl rfl Kr (.c (v := zcy _ _ _) rfl (h := .nil)) fun w b12 hst => ?_)
 refine CN (zaI (news := (zcX _ _ _)) hst zbE zbj rfl rfl .u1 rfl rfl rfl (zac (n := 3) (hst.objL Q0) _ rfl) rfl rfl Om fun w ao5 cp6 hst => ?_)
 replace hst := hst.drop .u1
 refine AL rfl <| NSR <| ML rfl <| CN (zag zbj zcn (.c (v := .int .u8 _) rfl (h := (.c (v := .int .u32 _) rfl (h := (.c (v := str _) rfl (h := .nil)))))) ?_)
 refine CN (zaE (z0 := [.int .u8 0, .int .u32 0, str []]) hst zbE zbj rfl rfl Kr (.c (v := zcy _ _ _) rfl (h := .nil)) fun w b16 hst => ?_)
 refine CN (zaI (news := (zcX _ _ _)) hst zbE zbj rfl rfl .u1 rfl rfl rfl (zac (n := 3) (hst.objL Q0) _ rfl) rfl rfl Om fun w ao7 cp8 hst => ?_)
 replace hst := hst.drop .u1
 refine AL rfl <| NL <| zaj [(1, .slice _ _ _)] ⟨rfl, trivial⟩ fun f => SR <| ML rfl <| CN (zag zbj zcn (.c (v := .int .u8 _) rfl (h := (.c (v := .int .u32 _) rfl (h := (.c (v := str _) rfl (h := .nil)))))) ?_)
 refine CN (zaE (z0 := [.int .u8 0, .int .u32 0, str []]) hst zbE zbj rfl rfl Kr (.c (v := zcy _ _ _) rfl (h := .nil)) fun w b20 hst => ?_)
 refine CN (zaI (news := (zcX _ _ _)) hst zbE zbj rfl rfl .u1 rfl rfl rfl (zac (n := 3) (hst.objL Q0) _ rfl) rfl rfl Om fun w ao9 cp10 hst => ?_)
 replace hst := hst.drop .u1
 refine AL rfl <| NSR <| ML rfl <| CN (zag zbj zcn (.c (v := .int .u8 _) rfl (h := (.c (v := .int .u32 _) rfl (h := (.c (v := str _) rfl (h := .nil)))))) ?_)
 refine CN (zaE (z0 := [.int .u8 0, .int .u32 0, str []]) hst zbE zbj rfl rfl Kr (.c (v := zcy _ _ _) rfl (h := .nil)) fun w b24 hst => ?_)
 refine CN (zaI (news := (zcX _ _ _)) hst zbE zbj rfl rfl .u1 rfl rfl rfl (zac (n := 3) (hst.objL Q0) _ rfl) rfl rfl Om fun w ao11 cp12 hst => ?_)
 replace hst := hst.drop .u1
 refine AL rfl <| NSR <| ML rfl <| CN (zag zbj zcn (.c (v := .int .u8 _) rfl (h := (.c (v := .int .u32 _) rfl (h := (.c (v := str _) rfl (h := .nil)))))) ?_)
 refine CN (zaE (z0 := [.int .u8 0, .int .u32 0, str []]) hst zbE zbj rfl rfl Kr (.c (v := zcy _ _ _) rfl (h := .nil)) fun w b28 hst => ?_)
 refine CN (zaI (news := (zcX _ _ _)) hst zbE zbj rfl rfl .u1 rfl rfl rfl (zac (n := 3) (hst.objL Q0) _ rfl) rfl rfl Om fun w ao13 cp14 hst => ?_)
 replace hst := hst.drop .u1
 refine AL rfl <| NSR <| ML rfl <| CN (zag zbj zcn (.c (v := .int .u8 _) rfl (h := (.c (v := .int .u32 _) rfl (h := (.c (v := str _) rfl (h := .nil)))))) ?_)
 refine CN (zaE (z0 := [.int .u8 0, .int .u32 0, str []]) hst zbE zbj rfl rfl Kr (.c (v := zcy _ _ _) rfl (h := .nil)) fun w b32 hst => ?_)
 refine CN (zaI (news := (zcX _ _ _)) hst zbE zbj rfl rfl .u1 rfl rfl rfl (zac (n := 3) (hst.objL Q0) _ rfl) rfl rfl Om fun w ao15 cp16 hst => ?_)
 replace hst := hst.drop .u1
 refine AL rfl <| NL <| zaj [(1, .slice _ _ _)] ⟨rfl, trivial⟩ fun f => SR <| ML rfl <| CN (zag zbj zcn (.c (v := .int .u8 _) rfl (h := (.c (v := .int .u32 _) rfl (h := (.c (v := str _) rfl (h := .nil)))))) ?_)
 refine CN (zaE (z0 := [.int .u8 0, .int .u32 0, str []]) hst zbE zbj rfl rfl Kr (.c (v := zcy _ _ _) rfl (h := .nil)) fun w b36 hst => ?_)
 refine CN (zaI (news := (zcX _ _ _)) hst zbE zbj rfl rfl .u1 rfl rfl rfl (zac (n := 3) (hst.objL Q0) _ rfl) rfl rfl Om fun w ao17 cp18 hst => ?_)
 replace hst := hst.drop .u1
 refine AL rfl <| NSR <| ML rfl <| CN (zag zbj zcn (.c (v := .int .u8 _) rfl (h := (.c (v := .int .u32 _) rfl (h := (.c (v := str _) rfl (h := .nil)))))) ?_)
 refine CN (zaE (z0 := [.int .u8 0, .int .u32 0, str []]) hst zbE zbj rfl rfl Kr (.c (v := zcy _ _ _) rfl (h := .nil)) fun w b40 hst => ?_)
 refine CN (zaI (news := (zcX _ _ _)) hst zbE zbj rfl rfl .u1 rfl rfl rfl (zac (n := 3) (hst.objL Q0) _ rfl) rfl rfl Om fun w ao19 cp20 hst => ?_)
 replace hst := hst.drop .u1
 refine AL rfl <| NSR <| ML rfl <| CN (zag zbj zcn (.c (v := .int .u8 _) rfl (h := (.c (v := .int .u32 _) rfl (h := (.c (v := str _) rfl (h := .nil)))))) ?_)
 refine CN (zaE (z0 := [.int .u8 0, .int .u32 0, str []]) hst zbE zbj rfl rfl Kr (.c (v := zcy _ _ _) rfl (h := .nil)) fun w b44 hst => ?_)
 refine CN (zaI (news := (zcX _ _ _)) hst zbE zbj rfl rfl .u1 rfl rfl rfl (zac (n := 3) (hst.objL Q0) _ rfl) rfl rfl Om fun w ao21 cp22 hst => ?_)
 replace hst := hst.drop .u1
 refine AL rfl <| NSR <| ML rfl <| CN (zag zbj zcn (.c (v := .int .u8 _) rfl (h := (.c (v := .int .u32 _) rfl (h := (.c (v := str _) rfl (h := .nil)))))) ?_)
 refine CN (zaE (z0 := [.int .u8 0, .int .u32 0, str []]) hst zbE zbj rfl rfl Kr (.c (v := zcy _ _ _) rfl (h := .nil)) fun w b48 hst => ?_)
 refine CN (zaI (news := (zcX _ _ _)) hst zbE zbj rfl rfl .u1 rfl rfl rfl (zac (n := 3) (hst.objL Q0) _ rfl) rfl rfl Om fun w ao23 cp24 hst => ?_)
 replace hst := hst.drop .u1
 refine AL rfl <| NL <| zaj [(1, .slice _ _ _)] ⟨rfl, trivial⟩ fun f => SR <| ML rfl <| CN (zag zbj zcn (.c (v := .int .u8 _) rfl (h := (.c (v := .int .u32 _) rfl (h := (.c (v := str _) rfl (h := .nil)))))) ?_)
 refine CN (zaE (z0 := [.int .u8 0, .int .u32 0, str []]) hst zbE zbj rfl rfl Kr (.c (v := zcy _ _ _) rfl (h := .nil)) fun w b52 hst => ?_)
 refine CN (zaI (news := (zcX _ _ _)) hst zbE zbj rfl rfl .u1 rfl rfl rfl (zac (n := 3) (hst.objL Q0) _ rfl) rfl rfl Om fun w ao25 cp26 hst => ?_)
 replace hst := hst.drop .u1
 refine AL rfl <| NSR <| ML rfl <| CN (zag zbj zcn (.c (v := .int .u8 _) rfl (h := (.c (v := .int .u32 _) rfl (h := (.c (v := str _) rfl (h := .nil)))))) ?_)
 refine CN (zaE (z0 := [.int .u8 0, .int .u32 0, str []]) hst zbE zbj rfl rfl Kr (.c (v := zcy _ _ _) rfl (h := .nil)) fun w b56 hst => ?_)
 refine CN (zaI (news := (zcX _ _ _)) hst zbE zbj rfl rfl .u1 rfl rfl rfl (zac (n := 3) (hst.objL Q0) _ rfl) rfl rfl Om fun w ao27 cp28 hst => ?_)
 replace hst := hst.drop .u1
 refine AL rfl <| NSR <| ML rfl <| CN (zag zbj zcn (.c (v := .int .u8 _) rfl (h := (.c (v := .int .u32 _) rfl (h := (.c (v := str _) rfl (h := .nil)))))) ?_)
 refine CN (zaE (z0 := [.int .u8 0, .int .u32 0, str []]) hst zbE zbj rfl rfl Kr (.c (v := zcy _ _ _) rfl (h := .nil)) fun w b60 hst => ?_)
 refine CN (zaI (news := (zcX _ _ _)) hst zbE zbj rfl rfl .u1 rfl rfl rfl (zac (n := 3) (hst.objL Q0) _ rfl) rfl rfl Om fun w ao29 cp30 hst => ?_)
 replace hst := hst.drop .u1
 refine AL rfl <| NSR <| ML rfl <| CN (zag zbj zcn (.c (v := .int .u8 _) rfl (h := (.c (v := .int .u32 _) rfl (h := (.c (v := str _) rfl (h := .nil)))))) ?_)
 refine CN (zaE (z0 := [.int .u8 0, .int .u32 0, str []]) hst zbE zbj rfl rfl Kr (.c (v := zcy _ _ _) rfl (h := .nil)) fun w b64 hst => ?_)
 refine CN (zaI (news := (zcX _ _ _)) hst zbE zbj rfl rfl .u1 rfl rfl rfl (zac (n := 3) (hst.objL Q0) _ rfl) rfl rfl Om fun w ao31 cp32 hst => ?_)
 replace hst := hst.drop .u1
 refine AL rfl <| NL <| zaj [(1, .slice _ _ _)] ⟨rfl, trivial⟩ fun f => SR <| ML rfl <| CN (zag zbj zcn (.c (v := .int .u8 _) rfl (h := (.c (v := .int .u32 _) rfl (h := (.c (v := str _) rfl (h := .nil)))))) ?_)
 refine CN (zaE (z0 := [.int .u8 0, .int .u32 0, str []]) hst zbE zbj rfl rfl Kr (.c (v := zcy _ _ _) rfl (h := .nil)) fun w b68 hst => ?_)
 refine CN (zaI (news := (zcX _ _ _)) hst zbE zbj rfl rfl .u1 rfl rfl rfl (zac (n := 3) (hst.objL Q0) _ rfl) rfl rfl Om fun w ao33 cp34 hst => ?_)
 replace hst := hst.drop .u1
 refine AL rfl <| NSR <| ML rfl <| CN (zag zbj zcn (.c (v := .int .u8 _) rfl (h := (.c (v := .int .u32 _) rfl (h := (.c (v := str _) rfl (h := .nil)))))) ?_)
 refine CN (zaE (z0 := [.int .u8 0, .int .u32 0, str []]) hst zbE zbj rfl rfl Kr (.c (v := zcy _ _ _) rfl (h := .nil)) fun w b72 hst => ?_)
 refine CN (zaI (news := (zcX _ _ _)) hst zbE zbj rfl rfl .u1 rfl rfl rfl (zac (n := 3) (hst.objL Q0) _ rfl) rfl rfl Om fun w ao35 cp36 hst => ?_)
 replace hst := hst.drop .u1
 refine AL rfl <| NSR <| ML rfl <| CN (zag zbj zcn (.c (v := .int .u8 _) rfl (h := (.c (v := .int .u32 _) rfl (h := (.c (v := str _) rfl (h := .nil)))))) ?_)
 refine CN (zaE (z0 := [.int .u8 0, .int .u32 0, str []]) hst zbE zbj rfl rfl Kr (.c (v := zcy _ _ _) rfl (h := .nil)) fun w b76 hst => ?_)
 refine CN (zaI (news := (zcX _ _ _)) hst zbE zbj rfl rfl .u1 rfl rfl rfl (zac (n := 3) (hst.objL Q0) _ rfl) rfl rfl Om fun w ao37 cp38 hst => ?_)
 replace hst := hst.drop .u1
 refine AL rfl <| NSR <| ML rfl <| CN (zag zbj zcn (.c (v := .int .u8 _) rfl (h := (.c (v := .int .u32 _) rfl (h := (.c (v := str _) rfl (h := .nil)))))) ?_)
 refine CN (zaE (z0 := [.int .u8 0, .int .u32 0, str []]) hst zbE zbj rfl rfl Kr (.c (v := zcy _ _ _) rfl (h := .nil)) fun w b80 hst => ?_)
 refine CN (zaI (news := (zcX _ _ _)) hst zbE zbj rfl rfl .u1 rfl rfl rfl (zac (n := 3) (hst.objL Q0) _ rfl) rfl rfl Om fun w ao39 cp40 hst => ?_)
 replace hst := hst.drop .u1
 refine AL rfl <| NL <| zaj [(1, .slice _ _ _)] ⟨rfl, trivial⟩ fun f => SR <| ML rfl <| CN (zag zbj zcn (.c (v := .int .u8 _) rfl (h := (.c (v := .int .u32 _) rfl (h := (.c (v := str _) rfl (h := .nil)))))) ?_)
 refine CN (zaE (z0 := [.int .u8 0, .int .u32 0, str []]) hst zbE zbj rfl rfl Kr (.c (v := zcy _ _ _) rfl (h := .nil)) fun w b84 hst => ?_)
 refine CN (zaI (news := (zcX _ _ _)) hst zbE zbj rfl rfl .u1 rfl rfl rfl (zac (n := 3) (hst.objL Q0) _ rfl) rfl rfl Om fun w ao41 cp42 hst => ?_)
 replace hst := hst.drop .u1
 refine AL rfl <| NSR <| ML rfl <| CN (zag zbj zcn (.c (v := .int .u8 _) rfl (h := (.c (v := .int .u32 _) rfl (h := (.c (v := str _) rfl (h := .nil)))))) ?_)
 refine CN (zaE (z0 := [.int .u8 0, .int .u32 0, str []]) hst zbE zbj rfl rfl Kr (.c (v := zcy _ _ _) rfl (h := .nil)) fun w b88 hst => ?_)
 refine CN (zaI (news := (zcX _ _ _)) hst zbE zbj rfl rfl .u1 rfl rfl rfl (zac (n := 3) (hst.objL Q0) _ rfl) rfl rfl Om fun w ao43 cp44 hst => ?_)
 replace hst := hst.drop .u1
 refine AL rfl <| NSR <| ML rfl <| CN (zag zbj zcn (.c (v := .int .u8 _) rfl (h := (.c (v := .int .u32 _) rfl (h := (.c (v := str _) rfl (h := .nil)))))) ?_)
 refine CN (zaE (z0 := [.int .u8 0, .int .u32 0, str []]) hst zbE zbj rfl rfl Kr (.c (v := zcy _ _ _) rfl (h := .nil)) fun w b92 hst => ?_)
 refine CN (zaI (news := (zcX _ _ _)) hst zbE zbj rfl rfl .u1 rfl rfl rfl (zac (n := 3) (hst.objL Q0) _ rfl) rfl rfl Om fun w ao45 cp46 hst => ?_)
 replace hst := hst.drop .u1
 refine AL rfl <| NSR <| ML rfl <| CN (zag zbj zcn (.c (v := .int .u8 _) rfl (h := (.c (v := .int .u32 _) rfl (h := (.c (v := str _) rfl (h := .nil)))))) ?_)
 refine CN (zaE (z0 := [.int .u8 0, .int .u32 0, str []]) hst zbE zbj rfl rfl Kr (.c (v := zcy _ _ _) rfl (h := .nil)) fun w b96 hst => ?_)
 refine CN (zaI (news := (zcX _ _ _)) hst zbE zbj rfl rfl .u1 rfl rfl rfl (zac (n := 3) (hst.objL Q0) _ rfl) rfl rfl Om fun w ao47 cp48 hst => ?_)
 replace hst := hst.drop .u1
 refine AL rfl <| NL <| zaj [(1, .slice _ _ _)] ⟨rfl, trivial⟩ fun f => SR <| ML rfl <| CN (zag zbj zcn (.c (v := .int .u8 _) rfl (h := (.c (v := .int .u32 _) rfl (h := (.c (v := str _) rfl (h := .nil)))))) ?_)
 refine CN (zaE (z0 := [.int .u8 0, .int .u32 0, str []]) hst zbE zbj rfl rfl Kr (.c (v := zcy _ _ _) rfl (h := .nil)) fun w b100 hst => ?_)
 refine CN (zaI (news := (zcX _ _ _)) hst zbE zbj rfl rfl .u1 rfl rfl rfl (zac (n := 3) (hst.objL Q0) _ rfl) rfl rfl Om fun w ao49 cp50 hst => ?_)
 replace hst := hst.drop .u1
 refine AL rfl <| NSR <| ML rfl <| CN (zag zbj zcn (.c (v := .int .u8 _) rfl (h := (.c (v := .int .u32 _) rfl (h := (.c (v := str _) rfl (h := .nil)))))) ?_)
 refine CN (zaE (z0 := [.int .u8 0, .int .u32 0, str []]) hst zbE zbj rfl rfl Kr (.c (v := zcy _ _ _) rfl (h := .nil)) fun w b104 hst => ?_)
 refine CN (zaI (news := (zcX _ _ _)) hst zbE zbj rfl rfl .u1 rfl rfl rfl (zac (n := 3) (hst.objL Q0) _ rfl) rfl rfl Om fun w ao51 cp52 hst => ?_)
 replace hst := hst.drop .u1
 refine AL rfl <| NSR <| ML rfl <| CN (zag zbj zcn (.c (v := .int .u8 _) rfl (h := (.c (v := .int .u32 _) rfl (h := (.c (v := str _) rfl (h := .nil)))))) ?_)
 refine CN (zaE (z0 := [.int .u8 0, .int .u32 0, str []]) hst zbE zbj rfl rfl Kr (.c (v := zcy _ _ _) rfl (h := .nil)) fun w b108 hst => ?_)
 refine CN (zaI (news := (zcX _ _ _)) hst zbE zbj rfl rfl .u1 rfl rfl rfl (zac (n := 3) (hst.objL Q0) _ rfl) rfl rfl Om fun w ao53 cp54 hst => ?_)
 replace hst := hst.drop .u1
 refine AL rfl <| NSR <| ML rfl <| CN (zag zbj zcn (.c (v := .int .u8 _) rfl (h := (.c (v := .int .u32 _) rfl (h := (.c (v := str _) rfl (h := .nil)))))) ?_)
 refine CN (zaE (z0 := [.int .u8 0, .int .u32 0, str []]) hst zbE zbj rfl rfl Kr (.c (v := zcy _ _ _) rfl (h := .nil)) fun w b112 hst => ?_)
 refine CN (zaI (news := (zcX _ _ _)) hst zbE zbj rfl rfl .u1 rfl rfl rfl (zac (n := 3) (hst.objL Q0) _ rfl) rfl rfl Om fun w ao55 cp56 hst => ?_)
 replace hst := hst.drop .u1
 refine AL rfl <| NL <| zaj [(1, .slice _ _ _)] ⟨rfl, trivial⟩ fun f => SR <| ML rfl <| CN (zag zbj zcn (.c (v := .int .u8 _) rfl (h := (.c (v := .int .u32 _) rfl (h := (.c (v := str _) rfl (h := .nil)))))) ?_)
 refine CN (zaE (z0 := [.int .u8 0, .int .u32 0, str []]) hst zbE zbj rfl rfl Kr (.c (v := zcy _ _ _) rfl (h := .nil)) fun w b116 hst => ?_)
 refine CN (zaI (news := (zcX _ _ _)) hst zbE zbj rfl rfl .u1 rfl rfl rfl (zac (n := 3) (hst.objL Q0) _ rfl) rfl rfl Om fun w ao57 cp58 hst => ?_)
 replace hst := hst.drop .u1
 refine AL rfl <| NSR <| ML rfl <| CN (zag zbj zcn (.c (v := .int .u8 _) rfl (h := (.c (v := .int .u32 _) rfl (h := (.c (v := str _) rfl (h := .nil)))))) ?_)
 refine CN (zaE (z0 := [.int .u8 0, .int .u32 0, str []]) hst zbE zbj rfl rfl Kr (.c (v := zcy _ _ _) rfl (h := .nil)) fun w b120 hst => ?_)
 refine CN (zaI (news := (zcX _ _ _)) hst zbE zbj rfl rfl .u1 rfl rfl rfl (zac (n := 3) (hst.objL Q0) _ rfl) rfl rfl Om fun w ao59 cp60 hst => ?_)
 replace hst := hst.drop .u1
 refine AL rfl <| NSR <| ML rfl <| AL rfl <| NL <| zah Tryz.func148 rfl (TP (v := .slice _ _ _) rfl) ?_
 exact ⟨_, _, rfl, hst⟩
end Go.SK
namespace Go.SK
open Go Go.Proofs
theorem zog : zaN Tryz.prog 90 := ⟨Tryz.f90, _, Tryz.func90, Kr, rfl⟩
end Go.SK
namespace Go.SK
open Go Go.Proofs
open Go.RowKit
theorem zlN (c : Int) (h0 : 0 ≤ c) (h1 : c ≤ 255) (w : World) : Ret Tryz.prog 124 #[.int .u8 c] w (fun v w' => v = .int .u8 (zbZ c) ∧ St w NoM [] [] w') := by
 refine zav (args := [.int .u8 c]) Tryz.func124 rfl rfl rfl ?_
 have hst := St.init w
 have hnl : namesL.length = 30 := by decide +kernel
 refine SR <| AC rfl <| NL <| SQ <| SR <| MC rfl <| CN <| zak rfl rfl <| NL <| zab rfl (fun g1 => ?_) (fun g1 => ?_)
 ·refine SR <| AC rfl <| NL <| zah Tryz.func124 rfl (TP (v := .int .u8 _) rfl) <| ⟨congrArg (Value.int .u8) (Eq.symm ?_), hst.pure⟩
  unfold zbZ
  rw [if_pos g1]
 refine zaf <| SQ <| SR <| MC rfl <| CN <| zak rfl rfl <| NL <| zab rfl (fun g2 => ?_) (fun g2 => ?_)
 ·refine SR <| AC rfl <| NL <| zah Tryz.func124 rfl (TP (v := .int .u8 _) rfl) <| ⟨congrArg (Value.int .u8) (Eq.symm ?_), hst.pure⟩
  unfold zbZ
  rw [if_neg g1, if_pos g2]
 refine zaf <| SQ <| SR <| MC rfl <| CN <| zak rfl rfl <| NL <| zab rfl (fun g3 => ?_) (fun g3 => ?_)
 ·refine SR <| AC rfl <| NL <| zah Tryz.func124 rfl (TP (v := .int .u8 _) rfl) <| ⟨congrArg (Value.int .u8) (Eq.symm ?_), hst.pure⟩
  unfold zbZ
  rw [if_neg g1, if_neg g2, if_pos g3]
 refine zaf <| SR <| CN (Op1.call0  zum rfl  ((zhv _).mono fun v w hp => ?_))
 obtain ⟨aoN, cpN, rfl, hp⟩ := hp
 replace hst := hst.call0 hp
 clear hp
 refine AL rfl <| NL <| SQ <| SR <| AI rfl <| NL <| zao <| zaV <| zaU [(0, .int .u8 _), (3, .slice _ _ _)] E2 (fun (i : Nat) => [(4, .int .i64 (i : Int))]) (fun (i : Nat) => []) (fun (i : Nat) => i ≤ namesL.length ∧ (namesL.drop i).find? (fun x => decide (x.letter = c)) = namesL.find? (fun x => decide (x.letter = c))) (fun (i : Nat) => namesL.length - i) (0) hst ⟨Nat.zero_le _, rfl⟩ ⟨rfl, trivial⟩ ?_
 intro i f w hst hJ ih4
 refine SQ <| SR <| MI rfl <| ML rfl <| CN <| zaQ (rest := []) zbE rfl <| CN <| zaS rfl rfl <| NL <| zab rfl (fun g5 => ?_) (fun g5 => ?_)
 ·refine zaf <| SQ <| zao <| SR <| ML rfl <| MI rfl ?_
  obtain ⟨bs6, rfl⟩ := Res.sl_some (hst.hL _ Q0) Om
  refine CN <| za5 zbE zbj rfl rfl Om Om <| CN <| zaa zmy rfl <| CN <| zae (v := .int .u8 _) ty5 rfl rfl (Res.sl_cell (hst.hL _ Q0) (za3 (g := zmn) (d := zcz) zeD rfl Om)) <| MC rfl <| CN <| zak rfl rfl <| NL <| zab rfl (fun g7 => ?_) (fun g7 => ?_)
  ·refine SR <| AC rfl <| NL <| zah Tryz.func124 rfl (TP (v := .int .u8 _) rfl) <| ⟨congrArg (Value.int .u8) (Eq.symm ?_), hst.pure⟩
   unfold zbZ
   rw [if_neg g1, if_neg g2, if_neg g3]
   rw [if_pos ((zj7 h0 h1).2 (by rw [zfQ (d := zcz) hJ.2 (by omega) (Dt g7)]; rfl))]
  refine zaf <| zam <| RG <| MI rfl <| CN <| zas rfl rfl rfl zbe <| AI rfl <| NL <| zay ?_
  exact ih4 (i + 1) _ w Om hst (⟨by omega, zdz (d := zcz) hJ.2 Om (Df g7)⟩) E2 ⟨(Vi Om), trivial⟩
 refine zaJ (id := 0) rfl <| SR <| AC rfl <| NL <| zah Tryz.func124 rfl (TP (v := .int .u8 _) rfl) <| ⟨congrArg (Value.int .u8) (Eq.symm ?_), hst.pure⟩
 unfold zbZ
 rw [if_neg g1, if_neg g2, if_neg g3]
 rw [if_neg (fun h => absurd ((zj7 h0 h1).1 h) (by rw [zfR hJ.2 (by omega)]; simp))]
end Go.SK
namespace Go.SK
open Go Go.Proofs
open Go.RowKit
theorem zeJ {op : Int} {fm : FormL} {ob : Bool} (hfm : zbq op = fm) (hob : (zbv op).isSome = ob) (w : World) : Ret Tryz.prog 90 #[.int .u16 op] w fun v w' => v = .tuple #[.agg (zh4 fm).toArray, .bool ob] ∧ St w NoM [] [] w' := by
 subst hfm; subst hob; exact zro op w
theorem zoB (op : Int) (h0 : 0 ≤ op) (i : Int) (h1 : i ≤ 9223372036854775807) (w : World) : Ret Tryz.prog 69 #[.int .u16 op, .int .i64 i] w (fun v w' => v = .int .u8 (zaP (zbq op) i) ∧ St w NoM [] [] w') := by
 refine zav (args := [.int .u16 op, .int .i64 i]) Tryz.func69 rfl rfl rfl ?_
 have hst := St.init w
 obtain ⟨fm, hfm⟩ : ∃ x, zbq op = x := ⟨_, rfl⟩
 obtain ⟨ob, hob⟩ : ∃ x, (zbv op).isSome = x := ⟨_, rfl⟩
 have hf := zeg op
 rw [hfm] at hf
 have hz : ob = false → fm = zeroF := fun e => by subst e; rw [← hfm]; exact zj0 hob
 obtain ⟨_, hmost, hfx, hrs, _, _, _, _⟩ := hf
 have hre : fm.rest = [] ↔ fm.rest.length = 0 := List.length_eq_zero_iff.symm
 refine SR <| AC rfl <| NSR <| MH rfl <| CN <| Op1.call1 (v1 := .int .u16 _) zog rfl rfl <| Ret.det (zeJ hfm hob _) hst fun w hst => CN <| zad (v := .tuple #[zau _ _ _ _ _ _ _ _, .bool _]) rfl <| CN <| Ex (zau _ _ _ _ _ _ _ _) rfl rfl <| CN <| Ex (.bool _) rfl rfl <| CN <| Op1.alloc hst zaM fun w b5 hst => CN (SO (v := zau _ _ _ _ _ _ _ _) hst zaM rfl rfl .u0 fun w hst => ?_)
 refine AB rfl <| NL <| SQ <| SR <| MB rfl <| CN <| zaZ rfl <| MB rfl <| zbH (d := 15) rfl (fun g1 => ?_) (fun g1 => ?_)
 ·refine OM (t := 15) rfl (Vb g1) rfl <| OM (t := 15) rfl (Vb g1) rfl <| CN <| zap (u := .bool _) (Vb g1) rfl <| NL <| zax (Vb (rfl : true = _)) <| SR <| AC rfl <| NL <| zah Tryz.func69 rfl (TP (v := .int .u8 _) rfl) <| ⟨congrArg (Value.int .u8) (Eq.symm ?_), hst.pure⟩
  rw [hfm]
  have hzz : fm = zeroF ∨ i < 0 := .inl (hz (by simpa using g1))
  rcases hzz with rfl | hzz
  ·exact zhr i
  ·unfold zaP; rw [if_pos hzz]
 refine TK (t := 15) rfl (Vb g1) <| zad (v := .int .i64 _) rfl <| TK (t := 15) rfl (Vb g1) <| zaS rfl rfl <| CN <| zaq (u := .bool _) (Vb g1) rfl <| NL <| zab rfl (fun g2 => ?_) (fun g2 => ?_)
 ·refine SR <| AC rfl <| NL <| zah Tryz.func69 rfl (TP (v := .int .u8 _) rfl) <| ⟨congrArg (Value.int .u8) (Eq.symm ?_), hst.pure⟩
  rw [hfm]
  have hzz : fm = zeroF ∨ i < 0 := .inr Om
  rcases hzz with rfl | hzz
  ·exact zhr i
  ·unfold zaP; rw [if_pos hzz]
 refine zaf <| SQ <| SR <| MI rfl <| CN <| zaa zdx rfl <| CN <| zae (v := str _) ty9 rfl rfl (hst.cellL Q0 rfl) <| CN <| zaL (rest := []) ty9 rfl <| CN <| zaS rfl rfl <| NL <| zaj [(1, .int .i64 _), (5, Pp _ _), (23, .bool _)] E3 fun f => zab rfl (fun g3 => ?_) (fun g3 => ?_)
 ·refine SR <| CN <| zaa zdx rfl <| CN <| zae (v := str _) ty9 rfl rfl (hst.cellL Q0 rfl) <| MI rfl <| CN <| zaH ty9 rfl rfl Om Om <| AC rfl <| NL <| zah Tryz.func69 rfl (TP (v := .int .u8 _) rfl) <| ⟨congrArg (Value.int .u8) (Eq.symm ?_), hst.pure⟩
  rw [hfm]
  unfold zaP
  rw [if_neg (by omega), if_pos (by omega)]
 refine zaf <| SQ <| SR <| CN <| zaa zcu rfl <| CN <| zae (v := str _) ty9 rfl rfl (hst.cellL Q0 rfl) <| CN <| zaL (rest := []) ty9 rfl <| CN <| zak rfl rfl <| NL <| zab rfl (fun g4 => ?_) (fun g4 => ?_)
 ·refine SR <| AC rfl <| NL <| zah Tryz.func69 rfl (TP (v := .int .u8 _) rfl) <| ⟨congrArg (Value.int .u8) (Eq.symm ?_), hst.pure⟩
  rw [hfm]
  unfold zaP zgn
  rw [if_neg (by omega), if_neg (by omega), if_pos (by rw [hre]; omega)]
 refine zaf <| SR <| MI rfl <| CN <| zaa zdx rfl <| CN <| zae (v := str _) ty9 rfl rfl (hst.cellL Q0 rfl) <| CN <| zaL (rest := []) ty9 rfl <| CN <| zbx rfl rfl rfl zbe <| AI rfl <| NL <| SQ <| SQ ?_
 have hqb := div_bd (a := i - (fm.fixed.length : Int)) (b := (fm.rest.length : Int)) Om Om
 refine RunD.start [] hst (bs := [0, 1, 3, 7, 15, 15, 47, 111, 255, 15, 527, 2047, 4095]) (ds := [some 37, some 38, some 39, some 40, some 41, some 42, some 43, some 44, some 45, some 46, some 47, some 48, some 49]) ⟨Kr, Kr, Kr⟩ (fun tab5 => ?_)
 refine DO tab5 1 (fun f' L' w' hc=> zaa zh6 (hc.old (v := Pp _ _) rfl rfl rfl) hc.z) <| DO tab5 2 (fun f' L' w' hc=> zae (v := .int .i64 _) ty3 rfl (hc.d 0 rfl rfl rfl rfl) (hc.st.cellL (List.mem_append_right _ Q0) rfl) hc.z) <| DO tab5 3 (fun f' L' w' hc=> zbm (hc.d 1 rfl rfl rfl rfl) rfl hc.z) <| DO tab5 4 (fun _ _ _ hc => zad (v := .bool _) (hc.d 2 rfl rfl rfl rfl) hc.z) <| zcM (j := 3) rfl (fun g6 => ?_) (fun g6 => ?_)
 ·refine RunD.take (det _) tab5 5 rfl (fun f' L' w' hc=> (hc.d 3 rfl rfl rfl rfl).trans (Vb (Dt g6))) (fun f' L' w' hc=> zad (v := .int .i64 _) (hc.old rfl rfl rfl) hc.z) <| RunD.take (det _) tab5 6 rfl (fun f' L' w' hc=> (hc.d 3 rfl rfl rfl rfl).trans (Vb (Dt g6))) (fun f' L' w' hc=> zaa zcu (hc.old (v := Pp _ _) rfl rfl rfl) hc.z) <| RunD.take (det _) tab5 7 rfl (fun f' L' w' hc=> (hc.d 3 rfl rfl rfl rfl).trans (Vb (Dt g6))) (fun f' L' w' hc=> zae (v := str _) ty9 rfl (hc.d 5 rfl rfl rfl rfl) (hc.st.cellL (List.mem_append_right _ Q0) rfl) hc.z) <| RunD.take (det _) tab5 8 rfl (fun f' L' w' hc=> (hc.d 3 rfl rfl rfl rfl).trans (Vb (Dt g6))) (fun _ _ _ hc => zaL (rest := []) ty9 (hc.d 6 rfl rfl rfl rfl) hc.z) ?_
  first | refine RunD.take (det _) tab5 9 rfl (fun f' L' w' hc=> (hc.d 3 rfl rfl rfl rfl).trans (Vb (Dt g6))) (fun f' L' w' hc=> zf5 (hc.d 4 rfl rfl rfl rfl) (hc.d 7 rfl rfl rfl rfl) Om Om rfl zbe hc.z) ?_ | refine RunD.take (det _) tab5 9 rfl (fun f' L' w' hc=> (hc.d 3 rfl rfl rfl rfl).trans (Vb (Dt g6))) (fun _ _ _ hc => zhA (hc.d 4 rfl rfl rfl rfl) (hc.d 7 rfl rfl rfl rfl) Om hc.z) ?_
  refine RunD.take (det _) tab5 10 rfl (fun f' L' w' hc=> (hc.d 3 rfl rfl rfl rfl).trans (Vb (Dt g6))) (fun f' L' w' hc=> zaa zh6 (hc.old (v := Pp _ _) rfl rfl rfl) hc.z) <| RunD.take (det _) tab5 11 rfl (fun f' L' w' hc=> (hc.d 3 rfl rfl rfl rfl).trans (Vb (Dt g6))) (fun _ _ _ hc => zae (v := .int .i64 _) ty3 rfl (hc.d 9 rfl rfl rfl rfl) (hc.st.cellL (List.mem_append_right _ Q0) rfl) hc.z) <| RunD.fin zaw tab5 hst rfl (fun f7 w R10 hs8 hd9 hr11 hst => ?_)
  obtain ⟨h37_, r0⟩ := hd9 0 37 rfl rfl
  obtain ⟨h38_, r1⟩ := hd9 1 38 rfl rfl
  obtain ⟨h39_, r2⟩ := hd9 2 39 rfl rfl
  obtain ⟨h40_, r3⟩ := hd9 3 40 rfl rfl
  obtain ⟨h41_, r4⟩ := hd9 4 41 rfl rfl
  obtain ⟨h42_, r5⟩ := hd9 5 42 rfl rfl
  obtain ⟨h43_, r6⟩ := hd9 6 43 rfl rfl
  obtain ⟨h44_, r7⟩ := hd9 7 44 rfl rfl
  obtain ⟨h45_, r8⟩ := hd9 8 45 rfl rfl
  obtain ⟨h46_, r9⟩ := hd9 9 46 rfl rfl
  obtain ⟨h47_, r10⟩ := hd9 10 47 rfl rfl
  simp only [rg11, Fc, Fn, Mc, Mn, r0, r1, r2, r3, r4, r5, r6, r7, r8, r9, r10, Na, An, Ca] at hst
  refine zaD (sl := [(5, Pp _ _), (7, .int .i64 _), (40, .bool _), (45, .int .i64 _), (47, .int .i64 _)]) ⟨(hs8 5 rfl).trans rfl, (hs8 7 rfl).trans rfl, h40_, h45_, h47_, trivial⟩ ?_
  clear hs8 hd9 hr11 tab5
  refine TK (t := 40) rfl (Vb (Dt g6)) <| zbo rfl rfl <| CN <| zap (u := .bool _) (Vb (Dt g6)) rfl <| NL <| zaj [(5, Pp _ _), (7, .int .i64 _), (49, .bool _)] E3 fun f => zab rfl (fun g12 => ?_) (fun g12 => ?_)
  ·refine SR <| AC rfl <| NL <| zah Tryz.func69 rfl (TP (v := .int .u8 _) rfl) <| ⟨congrArg (Value.int .u8) (Eq.symm ?_), hst.pure⟩
   rw [hfm]
   unfold zaP zgn
   rw [if_neg (by omega), if_neg (by omega)]
   have hmd := zmo (k := i - (fm.fixed.length : Int)) (r := (fm.rest.length : Int)) (m := fm.most) Om
   first | rw [if_pos (by rw [hre]; omega)] | rw [if_neg (by rw [hre]; omega)]
  have hmdd := Int.emod_lt_of_pos (i - (fm.fixed.length : Int)) (show (0 : Int) < fm.rest.length by omega)
  have hmnn := Int.emod_nonneg (i - (fm.fixed.length : Int)) (show (fm.rest.length : Int) ≠ 0 by omega)
  refine zaf <| SQ <| RunD.start [] hst (bs := [0, 1, 0, 0, 8, 24, 60, 127, 255]) (ds := [some 50, some 51, some 52, some 53, some 54, some 55, some 56, some 57, some 4]) ⟨Kr, Kr, Kr⟩ (fun tab13 => ?_)
  refine DO tab13 1 (fun f' L' w' hc=> zaa zcu (hc.old (v := Pp _ _) rfl rfl rfl) hc.z) <| DO tab13 2 (fun f' L' w' hc=> zae (v := str _) ty9 rfl (hc.d 0 rfl rfl rfl rfl) (hc.st.cellL (List.mem_append_right _ Q0) rfl) hc.z) <| DO tab13 3 (fun f' L' w' hc=> zad (v := .int .i64 _) (hc.old rfl rfl rfl) hc.z) <| DO tab13 4 (fun f' L' w' hc=> zaa zcu (hc.old (v := Pp _ _) rfl rfl rfl) hc.z) <| DO tab13 5 (fun f' L' w' hc=> zae (v := str _) ty9 rfl (hc.d 3 rfl rfl rfl rfl) (hc.st.cellL (List.mem_append_right _ Q0) rfl) hc.z) <| DO tab13 6 (fun _ _ _ hc => zaL (rest := []) ty9 (hc.d 4 rfl rfl rfl rfl) hc.z) ?_
  first | refine DO tab13 7 (fun f' L' w' hc=> zdW (hc.d 2 rfl rfl rfl rfl) (hc.d 5 rfl rfl rfl rfl) Om Om rfl hc.z) ?_ | refine DO tab13 7 (fun _ _ _ hc => zfd (hc.d 2 rfl rfl rfl rfl) (hc.d 5 rfl rfl rfl rfl) Om hc.z) ?_
  refine RunD.fin zaw tab13 hst rfl (fun f14 w R17 hs15 hd16 hr18 hst => ?_)
  obtain ⟨h50_, r0⟩ := hd16 0 50 rfl rfl
  obtain ⟨h51_, r1⟩ := hd16 1 51 rfl rfl
  obtain ⟨h52_, r2⟩ := hd16 2 52 rfl rfl
  obtain ⟨h53_, r3⟩ := hd16 3 53 rfl rfl
  obtain ⟨h54_, r4⟩ := hd16 4 54 rfl rfl
  obtain ⟨h55_, r5⟩ := hd16 5 55 rfl rfl
  obtain ⟨h56_, r6⟩ := hd16 6 56 rfl rfl
  simp only [rg7, Fc, Fn, Mc, Mn, r0, r1, r2, r3, r4, r5, r6, Na, An, Ca] at hst
  refine zaD (sl := [(51, str _), (56, .int .i64 _)]) ⟨h51_, h56_, trivial⟩ ?_
  clear hs15 hd16 hr18 tab13
  refine CN <| zaH ty9 rfl rfl Om Om <| AC rfl <| NL <| zah Tryz.func69 rfl (TP (v := .int .u8 _) rfl) <| ⟨congrArg (Value.int .u8) (Eq.symm ?_), hst.pure⟩
  rw [hfm]
  unfold zaP zgn
  rw [if_neg (by omega), if_neg (by omega)]
  have hmd := zmo (k := i - (fm.fixed.length : Int)) (r := (fm.rest.length : Int)) (m := fm.most) Om
  first | rw [if_pos (by rw [hre]; omega)] | rw [if_neg (by rw [hre]; omega)]
 refine zaX tab5 5 rfl rfl (fun f' L' w' hc=> (hc.d 3 rfl rfl rfl rfl).trans (Vb (Df g6))) <| zaX tab5 6 rfl rfl (fun f' L' w' hc=> (hc.d 3 rfl rfl rfl rfl).trans (Vb (Df g6))) <| zaX tab5 7 rfl rfl (fun f' L' w' hc=> (hc.d 3 rfl rfl rfl rfl).trans (Vb (Df g6))) <| zaX tab5 8 rfl rfl (fun f' L' w' hc=> (hc.d 3 rfl rfl rfl rfl).trans (Vb (Df g6))) <| zaX tab5 9 rfl rfl (fun f' L' w' hc=> (hc.d 3 rfl rfl rfl rfl).trans (Vb (Df g6))) <| zaX tab5 10 rfl rfl (fun f' L' w' hc=> (hc.d 3 rfl rfl rfl rfl).trans (Vb (Df g6))) <| zaX tab5 11 rfl rfl (fun _ _ _ hc => (hc.d 3 rfl rfl rfl rfl).trans (Vb (Df g6))) <| RunD.fin zaw tab5 hst rfl (fun f19 w R22 hs20 hd21 hr23 hst => ?_)
 obtain ⟨h37_, r0⟩ := hd21 0 37 rfl rfl
 obtain ⟨h38_, r1⟩ := hd21 1 38 rfl rfl
 obtain ⟨h39_, r2⟩ := hd21 2 39 rfl rfl
 obtain ⟨h40_, r3⟩ := hd21 3 40 rfl rfl
 obtain ⟨h41_, r4⟩ := hd21 4 41 rfl rfl
 obtain ⟨h42_, r5⟩ := hd21 5 42 rfl rfl
 obtain ⟨h43_, r6⟩ := hd21 6 43 rfl rfl
 obtain ⟨h44_, r7⟩ := hd21 7 44 rfl rfl
 obtain ⟨h45_, r8⟩ := hd21 8 45 rfl rfl
 obtain ⟨h46_, r9⟩ := hd21 9 46 rfl rfl
 obtain ⟨h47_, r10⟩ := hd21 10 47 rfl rfl
 simp only [rg11, Fc, Fn, Mc, Mn, r0, r1, r2, r3, r4, r5, r6, r7, r8, r9, r10, Na, An, Ca] at hst
 refine zaD (sl := [(5, Pp _ _), (7, .int .i64 _), (40, .bool _), (45, _), (47, _)]) ⟨(hs20 5 rfl).trans rfl, (hs20 7 rfl).trans rfl, h40_, h45_, h47_, trivial⟩ ?_
 clear hs20 hd21 hr23 tab5
 refine OM (t := 40) rfl (Vb (Df g6)) rfl <| CN <| zaq (u := .bool _) (Vb (Df g6)) rfl <| NL ?_
 have hmdd := Int.emod_lt_of_pos (i - (fm.fixed.length : Int)) (show (0 : Int) < fm.rest.length by omega)
 have hmnn := Int.emod_nonneg (i - (fm.fixed.length : Int)) (show (fm.rest.length : Int) ≠ 0 by omega)
 refine zat (Vb (rfl : false = _)) <| zaf <| SQ <| RunD.start [] hst (bs := [0, 1, 0, 0, 8, 24, 60, 127, 255]) (ds := [some 50, some 51, some 52, some 53, some 54, some 55, some 56, some 57, some 4]) ⟨Kr, Kr, Kr⟩ (fun tab24 => ?_)
 refine DO tab24 1 (fun f' L' w' hc=> zaa zcu (hc.old (v := Pp _ _) rfl rfl rfl) hc.z) <| DO tab24 2 (fun f' L' w' hc=> zae (v := str _) ty9 rfl (hc.d 0 rfl rfl rfl rfl) (hc.st.cellL (List.mem_append_right _ Q0) rfl) hc.z) <| DO tab24 3 (fun f' L' w' hc=> zad (v := .int .i64 _) (hc.old rfl rfl rfl) hc.z) <| DO tab24 4 (fun f' L' w' hc=> zaa zcu (hc.old (v := Pp _ _) rfl rfl rfl) hc.z) <| DO tab24 5 (fun f' L' w' hc=> zae (v := str _) ty9 rfl (hc.d 3 rfl rfl rfl rfl) (hc.st.cellL (List.mem_append_right _ Q0) rfl) hc.z) <| DO tab24 6 (fun _ _ _ hc => zaL (rest := []) ty9 (hc.d 4 rfl rfl rfl rfl) hc.z) ?_
 first | refine DO tab24 7 (fun f' L' w' hc=> zdW (hc.d 2 rfl rfl rfl rfl) (hc.d 5 rfl rfl rfl rfl) Om Om rfl hc.z) ?_ | refine DO tab24 7 (fun _ _ _ hc => zfd (hc.d 2 rfl rfl rfl rfl) (hc.d 5 rfl rfl rfl rfl) Om hc.z) ?_
 refine RunD.fin zaw tab24 hst rfl (fun f25 w R28 hs26 hd27 hr29 hst => ?_)
 obtain ⟨h50_, r0⟩ := hd27 0 50 rfl rfl
 obtain ⟨h51_, r1⟩ := hd27 1 51 rfl rfl
 obtain ⟨h52_, r2⟩ := hd27 2 52 rfl rfl
 obtain ⟨h53_, r3⟩ := hd27 3 53 rfl rfl
 obtain ⟨h54_, r4⟩ := hd27 4 54 rfl rfl
 obtain ⟨h55_, r5⟩ := hd27 5 55 rfl rfl
 obtain ⟨h56_, r6⟩ := hd27 6 56 rfl rfl
 simp only [rg7, Fc, Fn, Mc, Mn, r0, r1, r2, r3, r4, r5, r6, Na, An, Ca] at hst
 refine zaD (sl := [(51, str _), (56, .int .i64 _)]) ⟨h51_, h56_, trivial⟩ ?_
 clear hs26 hd27 hr29 tab24
 refine CN <| zaH ty9 rfl rfl Om Om <| AC rfl <| NL <| zah Tryz.func69 rfl (TP (v := .int .u8 _) rfl) <| ⟨congrArg (Value.int .u8) (Eq.symm ?_), hst.pure⟩
 rw [hfm]
 unfold zaP zgn
 rw [if_neg (by omega), if_neg (by omega)]
 have hmd := zmo (k := i - (fm.fixed.length : Int)) (r := (fm.rest.length : Int)) (m := fm.most) Om
 first | rw [if_pos (by rw [hre]; omega)] | rw [if_neg (by rw [hre]; omega)]
end Go.SK
namespace Go.SK
open Go Go.Proofs
theorem zwk : zaN Tryz.prog 69 := ⟨Tryz.f69, _, Tryz.func69, Kr, rfl⟩
theorem zxn : zaN Tryz.prog 124 := ⟨Tryz.f124, _, Tryz.func124, Kr, rfl⟩
end Go.SK
namespace Go.SK
open Go Go.Proofs
open Go.RowKit
theorem zel {op : Int} {fm : FormL} (h0 : 0 ≤ op) (hfm : zbq op = fm) (i : Int) (h1 : i ≤ 9223372036854775807) (w : World) : Ret Tryz.prog 69 #[.int .u16 op, .int .i64 i] w fun v w' => v = .int .u8 (zaP fm i) ∧ St w NoM [] [] w' := by
 subst hfm; exact zoB op h0 i h1 w
end Go.SK
namespace Go.SK
open Go Go.Proofs
open Go.RowKit
theorem zhw (s : List UInt8) (w : World) (hl : s.length ≤ 9000000000000000000) : Ret Tryz.prog 125 #[str s] w (fun v w' => v = .int .i64 ((s.length / 4 + 1 : Nat) : Int) ∧ St w NoM [] [] w') := by
 refine zav (args := [str s]) Tryz.func125 rfl rfl rfl ?_
 have hst := St.init w
 refine SR <| AI rfl <| NSR <| MS rfl <| CN (zaL (rest := []) ty9 rfl ?_)
 first | refine CN (zf5 rfl rfl Om Om rfl zbe ?_) | refine CN (zhA rfl rfl Om ?_)
 refine CN <| zas rfl rfl rfl zbe <| AI rfl <| NL <| zah Tryz.func125 rfl (TP (v := .int .i64 _) rfl) ?_
 exact ⟨Vi Om, hst.pure⟩
end Go.SK
namespace Go.SK
open Go Go.Proofs
theorem zuo : zaN Tryz.prog 125 := ⟨Tryz.f125, _, Tryz.func125, Kr, rfl⟩
end Go.SK
namespace Go.SK
open Go Go.Proofs
open Go.RowKit
theorem zf1 (p : InstP) (fm : FormL) (w : World) (hA : (Res.rargs p).holds w) (hsm : (p.args.map za1).sum ≤ 900000000) (hla : ∀ a ∈ p.args, a.s.length ≤ 100000000000) : Ret Tryz.prog 71 #[.agg #[.int .u16 p.op, .int .u32 p.ty, .int .u32 p.res, .slice p.ao p.args.length p.cap], .agg #[.int .u16 fm.op, str fm.name, .bool fm.ty, .bool fm.res, str fm.fixed, str fm.rest, .int .i64 fm.most, .int .u8 fm.part]] w (fun v w' => v = .int .i64 (zbT fm p.args : Int) ∧ St w NoM [] [] w') := by
 refine zav (args := [.agg #[.int .u16 p.op, .int .u32 p.ty, .int .u32 p.res, .slice p.ao p.args.length p.cap], .agg #[.int .u16 fm.op, str fm.name, .bool fm.ty, .bool fm.res, str fm.fixed, str fm.rest, .int .i64 fm.most, .int .u8 fm.part]]) Tryz.func71 rfl rfl rfl ?_
 have hst : St w NoM [] [Res.rargs p] w := St.init_D hA
 clear hA
 have hlen := zeE p.args
 have hbt : b2n fm.ty ≤ 1 := by unfold b2n; split <;> omega
 have hbr : b2n fm.res ≤ 1 := by unfold b2n; split <;> omega
 refine SR <| CN <| zbi (v := zbb _ _ _ _ _ _) hst rfl rfl fun w b2 hst => CN <| zbi (v := zau _ _ _ _ _ _ _ _) hst rfl rfl fun w b3 hst => AI rfl <| NSR <| AI rfl <| NL <| SQ <| zcT (L1 := []) [(2, Pp _ _), (3, Pp _ _)] hst E2 (fun (q : Int) => [(5, .int .i64 q)]) (fun (q : Int) => []) (fun (q : Int) => q = ((1 + b2n fm.ty : Nat) : Int)) (fun n1 f w hst hJ1 => ?_) (fun cut1 => ?_)
 replace hst : St _ _ ([] ++ [_, _]) _ _ := hst
 replace hJ1 : n1 = ((1 + b2n fm.ty : Nat) : Int) := hJ1
 refine za2 (sl := [(5, .int .i64 n1)]) ⟨rfl, trivial⟩ ?_
 ·refine SQ <| zcT (L1 := []) [(2, Pp _ _)] hst ⟨rfl, trivial⟩ (fun (q : Int) => [(5, .int .i64 q)]) (fun (q : Int) => []) (fun (q : Int) => q = ((1 + b2n fm.ty + b2n fm.res : Nat) : Int)) (fun n2 f w hst hJ2 => ?_) (fun cut3 => ?_)
  replace hst : St _ _ ([] ++ [_, _]) _ _ := hst
  replace hJ2 : n2 = ((1 + b2n fm.ty + b2n fm.res : Nat) : Int) := hJ2
  refine za2 (sl := [(5, .int .i64 n2)]) ⟨rfl, trivial⟩ ?_
  ·refine SQ <| SR <| AI rfl <| NL <| zao <| zaV <| zaU [(2, Pp _ _)] ⟨rfl, trivial⟩ (fun (k : Nat) => [(5, .int .i64 ((1 + b2n fm.ty + b2n fm.res + zm3 p.args k : Nat) : Int)), (6, .int .i64 (k : Int))]) (fun (k : Nat) => []) (fun (k : Nat) => k ≤ p.args.length) (fun (k : Nat) => p.args.length - k) (0) hst (Nat.zero_le _) ⟨(Vi (by rw [hJ2]; simp [zm3])), rfl, trivial⟩ ?_
   intro k f w hst hJ ih5
   refine SQ <| SR <| MI rfl <| CN <| zaa zbR rfl <| CN <| zae (v := .slice _ _ _) zdb rfl rfl (hst.cellL Q1 rfl) <| CN <| zaQ (rest := []) zdb rfl <| CN <| zaS rfl rfl <| NL <| zab rfl (fun g6 => ?_) (fun g6 => ?_)
   ·have hss := zjQ (l := p.args) (k := k) Om
    have hsum : zm3 p.args k ≤ (p.args.map za1).sum := zmd
    have hmem : (p.args.getD k zeroA) ∈ p.args := zb8 Om
    have hsl := hla _ hmem
    have hidx : p.args.getD ((k : Int)).toNat zeroA = (p.args.getD k zeroA) := rfl
    have hidx2 : (p.args.getD ((k : Int)).toNat zeroA).kind = (p.args.getD k zeroA).kind := rfl
    refine zaf <| SQ <| zao <| SR <| CN <| zaa zbR rfl <| CN <| zae (v := .slice _ _ _) zdb rfl rfl (hst.cellL Q1 rfl) <| MI rfl <| CN <| zaO zdb za9 (hst.hD _ Q0) rfl rfl Om Om <| CN <| zaa zbA rfl <| CN <| zae (v := .int .u8 _) ty5 rfl rfl (Res.rs2_cellF (hst.hD _ Q0) (za3 (g := zff) (d := zeroA) zcL rfl Om)) <| CN <| zak rfl rfl <| NL <| zab rfl (fun g7 => ?_) (fun g7 => ?_)
    ·refine RG <| MI rfl <| CN <| zaa zbR rfl <| CN <| zae (v := .slice _ _ _) zdb rfl rfl (hst.cellL Q1 rfl) <| MI rfl <| CN <| zaO zdb za9 (hst.hD _ Q0) rfl rfl Om Om <| CN <| zaa zbh rfl <| CN <| zae (v := str _) ty9 rfl rfl (Res.rs2_cellF (hst.hD _ Q0) (za3 (g := zff) (d := zeroA) zcL rfl Om)) <| CN <| Op1.call1 (v1 := str _) zuo rfl rfl <| Ret.det (zhw (p.args.getD k zeroA).s _ Om) hst fun w hst => CN <| zas rfl rfl rfl zbe <| AI rfl <| NL <| zam <| zaj [(2, Pp _ _), (5, .int .i64 _), (6, .int .i64 _)] E3 fun f => RG ?_
     refine MI rfl <| CN <| zas rfl rfl rfl zbe <| AI rfl <| NL <| zay ?_
     have hy := (zd8 (a := (p.args.getD k zeroA)) Om).2
     rw [hy] at hss
     exact ih5 (k + 1) _ w (by omega) hst (by omega) ⟨rfl, trivial⟩ ⟨(Vi (by rw [hss]; omega)), (Vi (by omega)), trivial⟩
    refine RG <| MI rfl <| CN <| zas rfl rfl rfl zbe <| AI rfl <| NL <| zam <| RG <| MI rfl <| CN <| zas rfl rfl rfl zbe <| AI rfl <| NL <| zay ?_
    have hy := (zek (a := (p.args.getD k zeroA)) Om).2
    rw [hy] at hss
    exact ih5 (k + 1) _ w (by omega) hst (by omega) ⟨rfl, trivial⟩ ⟨(Vi (by rw [hss]; omega)), (Vi (by omega)), trivial⟩
   obtain rfl : k = p.args.length := by omega
   refine zaJ (id := 0) rfl <| SR <| MI rfl <| AI rfl <| NL <| zah Tryz.func71 rfl (TP (v := .int .i64 _) rfl) ?_
   exact ⟨Vi (by unfold zbT zm3; rw [List.take_length]; omega), hst.pure⟩
  ·refine SR <| CN <| zaa zcS rfl <| CN <| zae (v := .bool _) ty4 rfl rfl (hst.cellL Q0 rfl) <| NL <| zaA rfl (fun g8 => ?_) (fun g8 => ?_)
   ·have hr : fm.res = true := by simpa using g8
    refine RG <| MI rfl <| CN <| zas rfl rfl rfl zbe <| AI rfl <| NL ?_
    exact cut3 ((n1 + 1)) _ w (hst) ((by rw [hJ1, b2n.eq_def fm.res, hr]; simp)) ⟨rfl, trivial⟩ ⟨rfl, trivial⟩
   have hr : fm.res = false := by simpa using g8
   refine zaf ?_
   exact cut3 (n1) _ w (hst) ((by rw [hJ1, b2n.eq_def fm.res, hr]; rfl)) ⟨rfl, trivial⟩ ⟨rfl, trivial⟩
 ·refine SR <| CN <| zaa zdy rfl <| CN <| zae (v := .bool _) ty4 rfl rfl (hst.cellL Q0 rfl) <| NL <| zaA rfl (fun g9 => ?_) (fun g9 => ?_)
  ·have ht : fm.ty = true := by simpa using g9
   refine RG <| MI rfl <| CN <| zas rfl rfl rfl zbe <| AI rfl <| NL ?_
   exact cut1 (2) _ w (hst) ((by rw [b2n, ht]; rfl)) E2 ⟨rfl, trivial⟩
  have ht : fm.ty = false := by simpa using g9
  refine zaf ?_
  exact cut1 (1) _ w (hst) ((by rw [b2n, ht]; rfl)) E2 ⟨rfl, trivial⟩
end Go.SK
namespace Go.SK
open Go Go.Proofs
theorem zwj : zaN Tryz.prog 71 := ⟨Tryz.f71, _, Tryz.func71, Kr, rfl⟩
end Go.SK
