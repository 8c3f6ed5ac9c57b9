/-
  Operations on numbers and strings; calls.
-/
import Derived.Test.YtnbapjkldjhjoaaSkC
set_option linter.unusedVariables false
set_option linter.unusedSimpArgs false
namespace Go.SK
open Go.RowKit

/-- a string, by its bytes -/
def str (l : List UInt8) : Value := .string ⟨l.toArray⟩

theorem str_of (s : ByteArray) : Value.string s = str s.data.toList := by cases s; simp [str]

theorem toList_data (s : ByteArray) : s.toList = s.data.toList := ByteArray.toList_eq s

section
variable {P : Program} {ty : TypeId} {ρ : Operand → Value} {w : World} {C : Value → World → Prop} {T T2 : TypeId} {x y : Operand} {k : IntKind} {a b : Int}

theorem Op1.arith {op : BinOp} {v : Value} (hx : ρ x = .int k a) (hy : ρ y = .int k b) (h0 : (op matches .eql | .neq) = false) (hr : (binOp op T (.int k a) (.int k b)).run P w = .ok v w) (h : C v w) : Op1 P (.binOp op T x y T2) ty ρ w C := by
  refine Inv.value (v := v) (w' := w) ?_ h
  simp only [execOp, hx, hy]
  cases op <;> simp at h0 <;> simp [eqGuard, hr]

theorem Op1.add (hx : ρ x = .int k a) (hy : ρ y = .int k b) (h : C (.int k (k.wrap (a + b))) w) : Op1 P (.binOp .add T x y T2) ty ρ w C :=
  Op1.arith hx hy rfl (by simp [binOp, Op.intArith]) h
theorem Op1.sub (hx : ρ x = .int k a) (hy : ρ y = .int k b) (h : C (.int k (k.wrap (a - b))) w) : Op1 P (.binOp .sub T x y T2) ty ρ w C :=
  Op1.arith hx hy rfl (by simp [binOp, Op.intArith]) h
theorem Op1.mul (hx : ρ x = .int k a) (hy : ρ y = .int k b) (h : C (.int k (k.wrap (a * b))) w) : Op1 P (.binOp .mul T x y T2) ty ρ w C :=
  Op1.arith hx hy rfl (by simp [binOp, Op.intArith]) h
theorem Op1.addN {c : Int} (hx : ρ x = .int k a) (hy : ρ y = .int k b) (hc : a + b = c) (hw : k.wrap c = c) (h : C (.int k c) w) : Op1 P (.binOp .add T x y T2) ty ρ w C :=
  Op1.arith hx hy rfl (by simp [binOp, Op.intArith, hc, hw]) h
theorem Op1.subN {c : Int} (hx : ρ x = .int k a) (hy : ρ y = .int k b) (hc : a - b = c) (hw : k.wrap c = c) (h : C (.int k c) w) : Op1 P (.binOp .sub T x y T2) ty ρ w C :=
  Op1.arith hx hy rfl (by simp [binOp, Op.intArith, hc, hw]) h
theorem Op1.mulN {c : Int} (hx : ρ x = .int k a) (hy : ρ y = .int k b) (hc : a * b = c) (hw : k.wrap c = c) (h : C (.int k c) w) : Op1 P (.binOp .mul T x y T2) ty ρ w C :=
  Op1.arith hx hy rfl (by simp [binOp, Op.intArith, hc, hw]) h
theorem Op1.quo (hx : ρ x = .int k a) (hy : ρ y = .int k b) (h0 : b ≠ 0) (h : C (.int k (k.wrap (a.tdiv b))) w) : Op1 P (.binOp .quo T x y T2) ty ρ w C :=
  Op1.arith hx hy rfl (by simp [binOp, Op.intDiv, h0]) h
theorem Op1.rem (hx : ρ x = .int k a) (hy : ρ y = .int k b) (h0 : b ≠ 0) (h : C (.int k (a.tmod b)) w) : Op1 P (.binOp .rem T x y T2) ty ρ w C :=
  Op1.arith hx hy rfl (by simp [binOp, Op.intDiv, h0]) h
theorem Op1.quoN {c : Int} (hx : ρ x = .int k a) (hy : ρ y = .int k b) (ha : 0 ≤ a) (h0 : 0 < b) (hc : a / b = c) (hw : k.wrap c = c) (h : C (.int k c) w) : Op1 P (.binOp .quo T x y T2) ty ρ w C :=
  Op1.arith hx hy rfl (by simp [binOp, Op.intDiv, show b ≠ 0 by omega, Int.tdiv_eq_ediv_of_nonneg ha, hc, hw]) h
theorem Op1.remN {c : Int} (hx : ρ x = .int k a) (hy : ρ y = .int k b) (ha : 0 ≤ a) (h0 : 0 < b) (hc : a % b = c) (h : C (.int k c) w) : Op1 P (.binOp .rem T x y T2) ty ρ w C :=
  Op1.arith hx hy rfl (by simp [binOp, Op.intDiv, show b ≠ 0 by omega, Int.tmod_eq_emod_of_nonneg ha, hc]) h
theorem Op1.lss (hx : ρ x = .int k a) (hy : ρ y = .int k b) (h : C (.bool (decide (a < b))) w) : Op1 P (.binOp .lss T x y T2) ty ρ w C :=
  Op1.arith hx hy rfl (by simp [binOp, Op.intCmp]) h
theorem Op1.leq (hx : ρ x = .int k a) (hy : ρ y = .int k b) (h : C (.bool (decide (a ≤ b))) w) : Op1 P (.binOp .leq T x y T2) ty ρ w C :=
  Op1.arith hx hy rfl (by simp [binOp, Op.intCmp]) h
theorem Op1.gtr (hx : ρ x = .int k a) (hy : ρ y = .int k b) (h : C (.bool (decide (b < a))) w) : Op1 P (.binOp .gtr T x y T2) ty ρ w C :=
  Op1.arith hx hy rfl (by simp [binOp, Op.intCmp]) h
theorem Op1.geq (hx : ρ x = .int k a) (hy : ρ y = .int k b) (h : C (.bool (decide (b ≤ a))) w) : Op1 P (.binOp .geq T x y T2) ty ρ w C :=
  Op1.arith hx hy rfl (by simp [binOp, Op.intCmp]) h
theorem Op1.eql (hx : ρ x = .int k a) (hy : ρ y = .int k b) (h : C (.bool (decide (a = b))) w) : Op1 P (.binOp .eql T x y T2) ty ρ w C := by
  refine Inv.value (v := .bool (decide (a = b))) (w' := w) ?_ h
  simp only [execOp, hx, hy, eqGuard]
  simp [binOp, Op.intCmp]
  rfl
theorem Op1.neq (hx : ρ x = .int k a) (hy : ρ y = .int k b) (h : C (.bool (decide (a ≠ b))) w) : Op1 P (.binOp .neq T x y T2) ty ρ w C := by
  refine Inv.value (v := .bool (decide (a ≠ b))) (w' := w) ?_ h
  simp only [execOp, hx, hy, eqGuard]
  simp [binOp, Op.intCmp]
  rfl

theorem Op1.shlC {k2 : IntKind} {n : Nat} {c : Int} (hx : ρ x = .int k a) (hy : ρ y = .int k2 (n : Int)) (hn : n ≤ k.bits) (hc : k.wrap (a * 2 ^ n) = c) (h : C (.int k c) w) : Op1 P (.binOp .shl T x y T2) ty ρ w C := by
  refine Op1.of (v := .int k c) (w' := w) ?_ h
  simp only [execOp, hx, hy, eqGuard]
  have h0 : ¬ ((n : Int) < 0) := by omega
  simp [binOp, Op.shift, Nat.min_eq_left hn, hc, h0]
theorem Op1.shrC {k2 : IntKind} {n : Nat} {c : Int} (hx : ρ x = .int k a) (hy : ρ y = .int k2 (n : Int)) (hn : n ≤ k.bits) (hc : a.fdiv (2 ^ n) = c) (h : C (.int k c) w) : Op1 P (.binOp .shr T x y T2) ty ρ w C := by
  refine Op1.of (v := .int k c) (w' := w) ?_ h
  simp only [execOp, hx, hy, eqGuard]
  have h0 : ¬ ((n : Int) < 0) := by omega
  simp [binOp, Op.shift, Nat.min_eq_left hn, hc, h0]
theorem Op1.bits {op : BinOp} {v : Value} (hx : ρ x = .int k a) (hy : ρ y = .int k b) (ho : (op matches .and | .or | .xor | .andNot) = true) (hr : (Op.intBits op k a b).run P w = .ok v w) (h : C v w) : Op1 P (.binOp op T x y T2) ty ρ w C := by
  refine Op1.of (v := v) (w' := w) ?_ h
  simp only [execOp, hx, hy]
  cases op <;> simp at ho <;> simp [eqGuard, binOp, hr]
theorem Op1.neg (hx : ρ x = .int k a) (h : C (.int k (k.wrap (0 - a))) w) : Op1 P (.unOp .neg T x) ty ρ w C :=
  Op1.of (by simp [execOp, hx, Op.unary, Op.intArith]) h
theorem Op1.negN {c : Int} (hx : ρ x = .int k a) (hc : -a = c) (hw : k.wrap c = c) (h : C (.int k c) w) : Op1 P (.unOp .neg T x) ty ρ w C :=
  Op1.of (v := .int k c) (w' := w) (by simp [execOp, hx, Op.unary, Op.intArith, hc, hw]) h

/-- conversions between integers -/
theorem Op1.conv {S D : TypeId} {k' : IntKind} {ds : TypeDesc} {sz bytes sz' bytes' : Nat} {zs zs' : List Value} (hS : TyF P S ds sz bytes zs) (hD : TyF P D (.int k') sz' bytes' zs') (hx : ρ x = .int k a) (h : C (.int k' (k'.wrap a)) w) : Op1 P (.convert S D x) ty ρ w C := by
  refine Inv.value (v := .int k' (k'.wrap a)) (w' := w) ?_ h
  simp only [execOp, hx, convert, Sem.run_bind, hS.run_und, hD.run_und, Result.andThen]
  cases ds <;> simp [Conv.intToInt]
theorem Op1.convN {S D : TypeId} {k' : IntKind} {ds : TypeDesc} {sz bytes sz' bytes' : Nat} {zs zs' : List Value} (hS : TyF P S ds sz bytes zs) (hD : TyF P D (.int k') sz' bytes' zs') (hx : ρ x = .int k a) (hw : k'.wrap a = a) (h : C (.int k' a) w) : Op1 P (.convert S D x) ty ρ w C :=
  Op1.conv hS hD hx (by rw [hw]; exact h)

/-- bools -/
theorem Op1.eqlB {s t : Bool} {sz bytes : Nat} {zs : List Value} (hT : TyF P T .bool sz bytes zs) (hx : ρ x = .bool s) (hy : ρ y = .bool t) (h : C (.bool (s == t)) w) : Op1 P (.binOp .eql T x y T2) ty ρ w C := by
  refine Op1.of (v := .bool (s == t)) (w' := w) ?_ h
  have hr : (Op.equal T (.bool s) (.bool t)).run P w = .ok (s == t) w := by
    show (Op.equalIn (9999 + 1) T (.bool s) (.bool t)).run P w = _
    rw [Op.equalIn]
    simp [Sem.run_bind, hT.run_und, Result.andThen]
  simp only [execOp, hx, hy, eqGuard]
  simp [binOp, hr, Result.andThen]
theorem Op1.neqB {s t : Bool} {sz bytes : Nat} {zs : List Value} (hT : TyF P T .bool sz bytes zs) (hx : ρ x = .bool s) (hy : ρ y = .bool t) (h : C (.bool (s != t)) w) : Op1 P (.binOp .neq T x y T2) ty ρ w C := by
  refine Op1.of (v := .bool (s != t)) (w' := w) ?_ h
  have hr : (Op.equal T (.bool s) (.bool t)).run P w = .ok (s == t) w := by
    show (Op.equalIn (9999 + 1) T (.bool s) (.bool t)).run P w = _
    rw [Op.equalIn]
    simp [Sem.run_bind, hT.run_und, Result.andThen]
  simp only [execOp, hx, hy, eqGuard]
  simp [binOp, hr, Result.andThen]
  cases s <;> cases t <;> rfl

/-- strings -/
theorem Op1.eqlS {s t : List UInt8} (hx : ρ x = str s) (hy : ρ y = str t) (h : C (.bool (decide (s = t))) w) : Op1 P (.binOp .eql T x y T2) ty ρ w C := by
  refine Op1.of (v := .bool (decide (s = t))) (w' := w) ?_ h
  have e : (s == t) = decide (s = t) := by by_cases h : s = t <;> simp [h]
  simp only [execOp, hx, hy, eqGuard, str]
  simp [binOp, Op.stringOp, toList_data, e]
theorem Op1.neqS {s t : List UInt8} (hx : ρ x = str s) (hy : ρ y = str t) (h : C (.bool (decide (s ≠ t))) w) : Op1 P (.binOp .neq T x y T2) ty ρ w C := by
  refine Op1.of (v := .bool (decide (s ≠ t))) (w' := w) ?_ h
  have e : (s == t) = decide (s = t) := by by_cases h : s = t <;> simp [h]
  simp only [execOp, hx, hy, eqGuard, str]
  simp [binOp, Op.stringOp, toList_data, e]
theorem Op1.addS {s t : List UInt8} (hx : ρ x = str s) (hy : ρ y = str t) (hl : s.length + t.length ≤ 9223372036854775807) (h : C (str (s ++ t)) w) : Op1 P (.binOp .add T x y T2) ty ρ w C := by
  refine Op1.of (v := str (s ++ t)) (w' := w) ?_ h
  simp only [execOp, hx, hy, eqGuard, str]
  have h1 : ¬ (((ByteArray.mk s.toArray).size + (ByteArray.mk t.toArray).size : Nat) : Int) > IntKind.i64.max := by
    simp only [ByteArray.size, List.size_toArray]
    have : IntKind.i64.max = 9223372036854775807 := by decide
    omega
  have h2 : (ByteArray.mk s.toArray) ++ (ByteArray.mk t.toArray) = ⟨(s ++ t).toArray⟩ := by
    apply ByteArray.ext
    simp [ByteArray.data_append]
  simp only [binOp, Op.stringOp, if_neg h1, h2]
  rfl
end

/-! no overflow -/
theorem wrap_i64 {n : Int} (h1 : -9223372036854775808 ≤ n) (h2 : n ≤ 9223372036854775807) : IntKind.i64.wrap n = n := by
  simp [IntKind.wrap, IntKind.bits, IntKind.signed]; omega
theorem wrap_i32 {n : Int} (h1 : -2147483648 ≤ n) (h2 : n ≤ 2147483647) : IntKind.i32.wrap n = n := by
  simp [IntKind.wrap, IntKind.bits, IntKind.signed]; omega
theorem wrap_u8 {n : Int} (h1 : 0 ≤ n) (h2 : n ≤ 255) : IntKind.u8.wrap n = n := by
  simp [IntKind.wrap, IntKind.bits, IntKind.signed]; omega
theorem wrap_u16 {n : Int} (h1 : 0 ≤ n) (h2 : n ≤ 65535) : IntKind.u16.wrap n = n := by
  simp [IntKind.wrap, IntKind.bits, IntKind.signed]; omega
theorem wrap_u32 {n : Int} (h1 : 0 ≤ n) (h2 : n ≤ 4294967295) : IntKind.u32.wrap n = n := by
  simp [IntKind.wrap, IntKind.bits, IntKind.signed]; omega
theorem wrap_u64 {n : Int} (h1 : 0 ≤ n) (h2 : n ≤ 18446744073709551615) : IntKind.u64.wrap n = n := by
  simp [IntKind.wrap, IntKind.bits, IntKind.signed]; omega

theorem mul_rng {a b B : Int} (h0 : 0 ≤ B) (h1 : -B ≤ a) (h2 : a ≤ B) (h3 : -B ≤ b) (h4 : b ≤ B) : -(B * B) ≤ a * b ∧ a * b ≤ B * B := by
  have e1 : a.natAbs ≤ B.natAbs := by omega
  have e2 : b.natAbs ≤ B.natAbs := by omega
  have e3 : (a * b).natAbs ≤ B.natAbs * B.natAbs := by rw [Int.natAbs_mul]; exact Nat.mul_le_mul e1 e2
  have e4 : (B * B).natAbs = B.natAbs * B.natAbs := Int.natAbs_mul B B
  have e5 : 0 ≤ B * B := Int.mul_nonneg h0 h0
  omega
theorem Op1.mulB {P : Program} {ty : TypeId} {ρ : Operand → Value} {w : World} {C : Value → World → Prop} {T T2 : TypeId} {x y : Operand} {a b : Int} (hx : ρ x = .int .i64 a) (hy : ρ y = .int .i64 b)
    (h1 : -1048576 ≤ a) (h2 : a ≤ 1048576) (h3 : -1048576 ≤ b) (h4 : b ≤ 1048576) (h : -1099511627776 ≤ a * b → a * b ≤ 1099511627776 → C (.int .i64 (a * b)) w) : Op1 P (.binOp .mul T x y T2) ty ρ w C := by
  have := mul_rng (by omega) h1 h2 h3 h4
  exact Op1.mulN hx hy rfl (wrap_i64 (by omega) (by omega)) (h (by omega) (by omega))

/-! calls -/
def Enters (P : Program) (g : FuncId) : Prop := ∃ fn c, P.funcs[g]? = some fn ∧ (fn.name == "runtime.NumGoroutine") = false ∧ fn.body = some c

/-- what calling a value gives -/
def CallV (P : Program) (fv : Value) (args : List Value) (w : World) (C : Value → World → Prop) : Prop :=
  Inv P (do let d ← Deferred.ofValue fv args.toArray; invoke d.target d.args) w C

theorem CallV.func {P : Program} {g : FuncId} {args : List Value} {cap : List Value} {w : World} {C : Value → World → Prop} (hg : Enters P g) (hc : Ret P g (args ++ cap).toArray w C) :
    CallV P (.func (.func g) #[] cap.toArray) args w C := by
  obtain ⟨fn, c, h1, h2, h3⟩ := hg
  have h2' : fn.name ≠ "runtime.NumGoroutine" := by simpa using h2
  refine Inv.enter (g := g) (args := (args ++ cap).toArray) (w' := w) ?_ hc
  simp [Deferred.ofValue, invoke, callFunc, Sem.run_bind, program, Sem.run, h1, h2', h3, Result.andThen]

section
variable {P : Program} {ty : TypeId} {ρ : Operand → Value} {w : World} {C : Value → World → Prop} {g : FuncId} {tys : Array TypeId}

theorem Op1.callV {c : Operand} {args : List Operand} {fv : Value} {vs : List Value} (hf : ρ c = fv) (ha : args.map ρ = vs) (hc : CallV P fv vs w C) : Op1 P (.call ⟨.value c, args.toArray, tys⟩) ty ρ w C := by
  subst hf; subst ha
  intro fr cs h1 h3
  refine hc fr cs h1 ?_
  rw [h3]
  simp [execOp, resolve]

theorem Op1.callF {args : List Operand} {vs : List Value} (hg : Enters P g) (hf : ρ (.func g) = .func (.func g) #[] #[]) (ha : args.map ρ = vs) (hc : Ret P g vs.toArray w C) : Op1 P (.call ⟨.value (.func g), args.toArray, tys⟩) ty ρ w C :=
  Op1.callV hf ha (CallV.func (cap := []) hg (by simpa using hc))
variable {a1 a2 a3 a4 a5 : Operand} {v1 v2 v3 v4 v5 : Value}
theorem Op1.call0 (hg : Enters P g) (hf : ρ (.func g) = .func (.func g) #[] #[]) (hc : Ret P g #[] w C) : Op1 P (.call ⟨.value (.func g), #[], tys⟩) ty ρ w C :=
  Op1.callF (args := []) hg hf rfl hc
theorem Op1.call1 (hg : Enters P g) (hf : ρ (.func g) = .func (.func g) #[] #[]) (h1 : ρ a1 = v1) (hc : Ret P g #[v1] w C) : Op1 P (.call ⟨.value (.func g), #[a1], tys⟩) ty ρ w C :=
  Op1.callF (args := [a1]) (vs := [v1]) hg hf (by simp [h1]) hc
theorem Op1.call2 (hg : Enters P g) (hf : ρ (.func g) = .func (.func g) #[] #[]) (h1 : ρ a1 = v1) (h2 : ρ a2 = v2) (hc : Ret P g #[v1, v2] w C) : Op1 P (.call ⟨.value (.func g), #[a1, a2], tys⟩) ty ρ w C :=
  Op1.callF (args := [a1, a2]) (vs := [v1, v2]) hg hf (by simp [h1, h2]) hc
theorem Op1.call3 (hg : Enters P g) (hf : ρ (.func g) = .func (.func g) #[] #[]) (h1 : ρ a1 = v1) (h2 : ρ a2 = v2) (h3 : ρ a3 = v3) (hc : Ret P g #[v1, v2, v3] w C) : Op1 P (.call ⟨.value (.func g), #[a1, a2, a3], tys⟩) ty ρ w C :=
  Op1.callF (args := [a1, a2, a3]) (vs := [v1, v2, v3]) hg hf (by simp [h1, h2, h3]) hc
theorem Op1.call4 (hg : Enters P g) (hf : ρ (.func g) = .func (.func g) #[] #[]) (h1 : ρ a1 = v1) (h2 : ρ a2 = v2) (h3 : ρ a3 = v3) (h4 : ρ a4 = v4) (hc : Ret P g #[v1, v2, v3, v4] w C) : Op1 P (.call ⟨.value (.func g), #[a1, a2, a3, a4], tys⟩) ty ρ w C :=
  Op1.callF (args := [a1, a2, a3, a4]) (vs := [v1, v2, v3, v4]) hg hf (by simp [h1, h2, h3, h4]) hc
theorem Op1.call5 (hg : Enters P g) (hf : ρ (.func g) = .func (.func g) #[] #[]) (h1 : ρ a1 = v1) (h2 : ρ a2 = v2) (h3 : ρ a3 = v3) (h4 : ρ a4 = v4) (h5 : ρ a5 = v5) (hc : Ret P g #[v1, v2, v3, v4, v5] w C) : Op1 P (.call ⟨.value (.func g), #[a1, a2, a3, a4, a5], tys⟩) ty ρ w C :=
  Op1.callF (args := [a1, a2, a3, a4, a5]) (vs := [v1, v2, v3, v4, v5]) hg hf (by simp [h1, h2, h3, h4, h5]) hc
theorem Op1.callV0 {c : Operand} {fv : Value} (hf : ρ c = fv) (hc : CallV P fv [] w C) : Op1 P (.call ⟨.value c, #[], tys⟩) ty ρ w C := Op1.callV (args := []) hf rfl hc
theorem Op1.callV1 {c : Operand} {fv : Value} (hf : ρ c = fv) (h1 : ρ a1 = v1) (hc : CallV P fv [v1] w C) : Op1 P (.call ⟨.value c, #[a1], tys⟩) ty ρ w C := Op1.callV (args := [a1]) hf (by simp [h1]) hc
theorem Op1.callV2 {c : Operand} {fv : Value} (hf : ρ c = fv) (h1 : ρ a1 = v1) (h2 : ρ a2 = v2) (hc : CallV P fv [v1, v2] w C) : Op1 P (.call ⟨.value c, #[a1, a2], tys⟩) ty ρ w C := Op1.callV (args := [a1, a2]) hf (by simp [h1, h2]) hc

/-! builtins -/
theorem Op1.builtin {b : Builtin} {args : List Operand} {v : Value} {w' : World} (h : ∀ cs, (builtin b tys ty cs (args.map ρ).toArray).run P w = .ok (.value v) w') (hc : C v w') : Op1 P (.call ⟨.builtin b, args.toArray, tys⟩) ty ρ w C := by
  refine Op1.of (v := v) (w' := w') ?_ hc
  simp [execOp, resolve, invoke, Sem.run_bind, Result.andThen, h]

variable {T : TypeId} {d : TypeDesc} {sz bytes : Nat} {zs : List Value} {k : IntKind} {a b : Int}
theorem Op1.max2 (h1 : ρ a1 = .int k a) (h2 : ρ a2 = .int k b) (hc : C (.int k (if b > a then b else a)) w) : Op1 P (.call ⟨.builtin .max, #[a1, a2], tys⟩) ty ρ w C :=
  Op1.builtin (args := [a1, a2]) (fun cs => by simp [h1, h2, Go.builtin, Builtin.max_, Builtin.max2]) hc
theorem Op1.min2 (h1 : ρ a1 = .int k a) (h2 : ρ a2 = .int k b) (hc : C (.int k (if b < a then b else a)) w) : Op1 P (.call ⟨.builtin .min, #[a1, a2], tys⟩) ty ρ w C :=
  Op1.builtin (args := [a1, a2]) (fun cs => by simp [h1, h2, Go.builtin, Builtin.min_, Builtin.min2]) hc
theorem Op1.lenS {s : List UInt8} {rest : List TypeId} (hT : TyF P T .string sz bytes zs) (h1 : ρ a1 = str s) (hc : C (.int .i64 s.length) w) : Op1 P (.call ⟨.builtin .len, #[a1], (T :: rest).toArray⟩) ty ρ w C :=
  Op1.builtin (args := [a1]) (fun cs => by
    have hz : (ByteArray.mk s.toArray).size = s.length := by simp [ByteArray.size]
    simp [h1, Go.builtin, Builtin.len_, str, Sem.run_bind, hT.run_und, Result.andThen, goInt, hz]) hc
theorem Op1.lenSl {e : TypeId} {ad : Option Addr} {n c : Nat} {rest : List TypeId} (hT : TyF P T (.slice e) sz bytes zs) (h1 : ρ a1 = .slice ad n c) (hc : C (.int .i64 n) w) : Op1 P (.call ⟨.builtin .len, #[a1], (T :: rest).toArray⟩) ty ρ w C :=
  Op1.builtin (args := [a1]) (fun cs => by simp [h1, Go.builtin, Builtin.len_, Sem.run_bind, hT.run_und, Result.andThen, goInt]) hc

/-! strings: a byte, a piece -/
theorem Op1.indexS {x y : Operand} {s : List UInt8} {i : Int} (hT : TyF P T .string sz bytes zs) (hx : ρ x = str s) (hy : ρ y = .int k i) (h0 : 0 ≤ i) (h1 : i < s.length) (hc : C (.int .u8 (s.getD i.toNat 0).toNat) w) :
    Op1 P (.index T x y) ty ρ w C := by
  have hi : i.toNat < s.length := by omega
  refine Op1.of (v := .int .u8 (s.getD i.toNat 0).toNat) (w' := w) ?_ hc
  have hb : (ByteArray.mk s.toArray)[i.toNat]? = some (s.getD i.toNat 0) := by
    have hs : i.toNat < (ByteArray.mk s.toArray).size := by simpa [ByteArray.size] using hi
    rw [getElem?_pos (ByteArray.mk s.toArray) i.toNat hs]
    have : (ByteArray.mk s.toArray)[i.toNat] = s.toArray[i.toNat]'(by simpa using hi) := rfl
    rw [this]
    simp [hi]
  simp [execOp, Instr.index, hx, hy, str, asIntOf, Sem.run_bind, hT.run_und, Result.andThen, h0, hb]

theorem extract_mk (s : List UInt8) (l h : Nat) : (ByteArray.mk s.toArray).extract l h = ⟨((s.drop l).take (h - l)).toArray⟩ := by
  apply ByteArray.ext
  simp [ByteArray.data_extract]

theorem Op1.sliceFrom {x y : Operand} {s : List UInt8} {a : Int} (hT : TyF P T .string sz bytes zs) (hx : ρ x = str s) (hy : ρ y = .int k a) (h0 : 0 ≤ a) (h1 : a ≤ s.length)
    (hc : C (str (s.drop a.toNat)) w) : Op1 P (.slice T x (some y) none none) ty ρ w C := by
  refine Op1.of (v := str (s.drop a.toNat)) (w' := w) ?_ hc
  have hz : (ByteArray.mk s.toArray).size = s.length := by simp [ByteArray.size]
  simp [execOp, Instr.sliceAt, Instr.slice, Instr.sliceBounds, Instr.sliceBound, asIntOf, hx, hy, str, Sem.run_bind, hT.run_und, Result.andThen, hz, extract_mk, h0, h1]
  rw [List.take_of_length_le (by simp)]
theorem Op1.sliceTo {x y : Operand} {s : List UInt8} {a : Int} (hT : TyF P T .string sz bytes zs) (hx : ρ x = str s) (hy : ρ y = .int k a) (h0 : 0 ≤ a) (h1 : a ≤ s.length)
    (hc : C (str (s.take a.toNat)) w) : Op1 P (.slice T x none (some y) none) ty ρ w C := by
  refine Op1.of (v := str (s.take a.toNat)) (w' := w) ?_ hc
  have hz : (ByteArray.mk s.toArray).size = s.length := by simp [ByteArray.size]
  simp [execOp, Instr.sliceAt, Instr.slice, Instr.sliceBounds, Instr.sliceBound, asIntOf, hx, hy, str, Sem.run_bind, hT.run_und, Result.andThen, hz, extract_mk, h0, h1]
theorem Op1.sliceMid {x y z : Operand} {s : List UInt8} {k2 : IntKind} {a b : Int} (hT : TyF P T .string sz bytes zs) (hx : ρ x = str s) (hy : ρ y = .int k a) (hz : ρ z = .int k2 b) (h0 : 0 ≤ a) (h1 : a ≤ b) (h2 : b ≤ s.length)
    (hc : C (str ((s.drop a.toNat).take (b.toNat - a.toNat))) w) : Op1 P (.slice T x (some y) (some z) none) ty ρ w C := by
  refine Op1.of (v := str ((s.drop a.toNat).take (b.toNat - a.toNat))) (w' := w) ?_ hc
  have hs : (ByteArray.mk s.toArray).size = s.length := by simp [ByteArray.size]
  have h3 : 0 ≤ b := by omega
  have h4 : max b 0 = b := by omega
  simp [execOp, Instr.sliceAt, Instr.slice, Instr.sliceBounds, Instr.sliceBound, asIntOf, hx, hy, hz, str, Sem.run_bind, hT.run_und, Result.andThen, hs, extract_mk, h0, h1, h2, h3, h4]

theorem Op1.extract {x : Operand} {i : Nat} {vs : List Value} {v : Value} (hx : ρ x = .tuple vs.toArray) (hv : vs[i]? = some v) (hc : C v w) : Op1 P (.extract x i) ty ρ w C :=
  Op1.of (by simp [execOp, Instr.extract, hx, hv]) hc
theorem Op1.makeFunc {fn : Fn} {first cap : List Operand} (hc : C (.func fn (first.map ρ).toArray (cap.map ρ).toArray) w) : Op1 P (.makeFunc fn first.toArray cap.toArray) ty ρ w C :=
  Op1.of (v := .func fn (first.map ρ).toArray (cap.map ρ).toArray) (w' := w) (by simp [execOp, Instr.makeFunc]) hc
theorem Op1.nilCheckP {x : Operand} {ad : Addr} (hx : ρ x = .pointer (some ad)) (hc : C (.pointer (some ad)) w) : Op1 P (.nilCheck x) ty ρ w C :=
  Op1.of (v := .pointer (some ad)) (w' := w) (by simp [execOp, hx]) hc
end
end Go.SK
