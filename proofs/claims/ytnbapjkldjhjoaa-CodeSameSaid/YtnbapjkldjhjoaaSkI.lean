/-
  Structures and arrays compared.
-/
import Derived.Test.YtnbapjkldjhjoaaSkH
set_option linter.unusedVariables false
set_option linter.unusedSimpArgs false
namespace Go.SK
open Go.RowKit

/-! structs and arrays, held against one another -/
def EqOk (P : Program) (k : Nat) (T : TypeId) (x y : Value) (b : Bool) : Prop := ∀ (d : Nat) (w : World), (Op.equalIn (d + k) T x y).run P w = .ok b w
def PartOk (P : Program) (T : TypeId) (cs : List Value) (off : Nat) (v : Value) : Prop := ∀ w : World, (part T cs.toArray off).run P w = .ok v w

theorem EqOk.up {P : Program} {k : Nat} {T : TypeId} {x y : Value} {b : Bool} (h : EqOk P k T x y b) : EqOk P (k + 1) T x y b := fun d w => by
  rw [show d + (k + 1) = (d + 1) + k by omega]; exact h _ _
theorem EqOk.int {P : Program} {T : TypeId} {k : IntKind} {sz bytes : Nat} {zs : List Value} {a b : Int} (hT : TyF P T (.int k) sz bytes zs) : EqOk P 1 T (.int k a) (.int k b) (decide (a = b)) := fun d w => by
  rw [Op.equalIn]
  simp only [Sem.run_bind, hT.run_und, Result.andThen]
  have : (a == b) = decide (a = b) := rfl
  simp [this]
theorem EqOk.bool {P : Program} {T : TypeId} {sz bytes : Nat} {zs : List Value} {a b : Bool} (hT : TyF P T .bool sz bytes zs) : EqOk P 1 T (.bool a) (.bool b) (a == b) := fun d w => by
  rw [Op.equalIn]
  simp only [Sem.run_bind, hT.run_und, Result.andThen]
  simp
theorem EqOk.str {P : Program} {T : TypeId} {sz bytes : Nat} {zs : List Value} {a b : List UInt8} (hT : TyF P T .string sz bytes zs) : EqOk P 1 T (str a) (str b) (decide (a = b)) := fun d w => by
  rw [Op.equalIn]
  simp only [Sem.run_bind, hT.run_und, Result.andThen, SK.str]
  have : ((⟨a.toArray⟩ : ByteArray) == ⟨b.toArray⟩) = decide (a = b) := by
    show (a.toArray == b.toArray) = decide (a = b)
    by_cases h : a = b <;> simp [h]
  simp [this]

theorem PartOk.one {P : Program} {T : TypeId} {d : TypeDesc} {sz bytes : Nat} {zs cs : List Value} {off : Nat} {v : Value} (hT : TyF P T d sz bytes zs) (hd : aggB d = false) (hv : cs[off]? = some v) : PartOk P T cs off v := fun w => by
  simp only [part, Sem.run_bind, hT.run_isAgg, hd, Result.andThen]
  simp [hv]
theorem PartOk.agg {P : Program} {T : TypeId} {d : TypeDesc} {sz bytes : Nat} {zs cs vs : List Value} {off : Nat} (hT : TyF P T d sz bytes zs) (hd : aggB d = true) (hv : (cs.drop off).take sz = vs) : PartOk P T cs off (.agg vs.toArray) := fun w => by
  simp only [part, Sem.run_bind, hT.run_isAgg, hd, Result.andThen, if_true, hT.run_size]
  subst hv
  simp

inductive EqFields (P : Program) (k : Nat) (xs ys : List Value) : List Field → List Bool → Prop
  | nil : EqFields P k xs ys [] []
  | cons {f : Field} {fs : List Field} {b : Bool} {bs : List Bool} {px py : Value} (hn : f.name ≠ "_") (hx : PartOk P f.type xs f.offset px) (hy : PartOk P f.type ys f.offset py) (h : EqOk P k f.type px py b) (hr : EqFields P k xs ys fs bs) : EqFields P k xs ys (f :: fs) (b :: bs)

theorem EqOk.struct {P : Program} {T : TypeId} {k : Nat} {fs : List Field} {xs ys : List Value} {bs : List Bool} (hu : P.underlying T = some (.struct fs.toArray)) (hs : P.stoodInHeld T = false) (h : EqFields P k xs ys fs bs) :
    EqOk P (k + 1) T (.agg xs.toArray) (.agg ys.toArray) (bs.all id) := fun d w => by
  rw [show d + (k + 1) = (d + k) + 1 by omega, Op.equalIn]
  simp only [Sem.run_bind, run_underlying hu, Result.andThen]
  have hp : (program : Sem Program).run P w = .ok P w := rfl
  simp only [Sem.run_bind, hp, Result.andThen, hs, Bool.false_eq_true, if_false]
  simp only [List.forIn_toArray]
  clear hu
  induction h with
  | nil => simp
  | @cons f fs b bs px py hn hx hy h hr ih =>
    have h1 := hx w
    have h2 := hy w
    have h3 := h d w
    simp only [List.forIn_cons, Sem.run_bind, if_pos hn, h1, h2, h3, Result.andThen]
    cases b
    · simp
    · simp at ih ⊢
      exact ih

inductive EqElems (P : Program) (k : Nat) (e : TypeId) (es : Nat) (xs ys : List Value) : List Nat → List Bool → Prop
  | nil : EqElems P k e es xs ys [] []
  | cons {i : Nat} {is : List Nat} {b : Bool} {bs : List Bool} {px py : Value} (hx : PartOk P e xs (i * es) px) (hy : PartOk P e ys (i * es) py) (h : EqOk P k e px py b) (hr : EqElems P k e es xs ys is bs) : EqElems P k e es xs ys (i :: is) (b :: bs)

theorem EqOk.array {P : Program} {T e : TypeId} {k n es eb : Nat} {de : TypeDesc} {ez xs ys : List Value} {bs : List Bool} (hu : P.underlying T = some (.array n e)) (he : TyF P e de es eb ez) (h : EqElems P k e es xs ys (List.range n) bs) :
    EqOk P (k + 1) T (.agg xs.toArray) (.agg ys.toArray) (bs.all id) := fun d w => by
  rw [show d + (k + 1) = (d + k) + 1 by omega, Op.equalIn]
  simp only [Sem.run_bind, run_underlying hu, Result.andThen, he.run_size]
  rw [Std.Legacy.Range.forIn_eq_forIn_range']
  have e1 : List.range' 0 (Std.Legacy.Range.size [:n]) 1 = List.range n := by
    simp [Std.Legacy.Range.size, List.range_eq_range']
  simp only [e1]
  generalize List.range n = l at h
  clear hu e1
  induction h with
  | nil => simp
  | @cons i is b bs px py hx hy h hr ih =>
    have h1 := hx w
    have h2 := hy w
    have h3 := h d w
    simp only [List.forIn_cons, Sem.run_bind, h1, h2, h3, Result.andThen]
    cases b
    · simp
    · simp at ih ⊢
      exact ih

section
variable {P : Program} {ty : TypeId} {ρ : Operand → Value} {w : World} {C : Value → World → Prop} {T T2 : TypeId} {x y : Operand} {k : Nat} {xs ys : List Value} {b : Bool}
theorem equal_run {x y : Value} (h : EqOk P k T x y b) (hk : Nat.ble k 10000 = true) : (Op.equal T x y).run P w = .ok b w := by
  have := h (10000 - k) w
  rw [Nat.sub_add_cancel (Nat.le_of_ble_eq_true hk)] at this
  exact this
theorem Op1.eqlA (hx : ρ x = .agg xs.toArray) (hy : ρ y = .agg ys.toArray) (hg : P.eqGuardType P.depth T = false) (h : EqOk P k T (.agg xs.toArray) (.agg ys.toArray) b) (hc : C (.bool b) w) (hk : Nat.ble k 10000 = true := by rfl) : Op1 P (.binOp .eql T x y T2) ty ρ w C := by
  refine Op1.of (v := .bool b) (w' := w) ?_ hc
  have hp : (program : Sem Program).run P w = .ok P w := rfl
  simp only [execOp, hx, hy, eqGuard, binOp]
  simp [Sem.run_bind, hp, hg, Result.andThen, equal_run h hk]
theorem Op1.neqA (hx : ρ x = .agg xs.toArray) (hy : ρ y = .agg ys.toArray) (hg : P.eqGuardType P.depth T = false) (h : EqOk P k T (.agg xs.toArray) (.agg ys.toArray) b) (hc : C (.bool (!b)) w) (hk : Nat.ble k 10000 = true := by rfl) : Op1 P (.binOp .neq T x y T2) ty ρ w C := by
  refine Op1.of (v := .bool (!b)) (w' := w) ?_ hc
  have hp : (program : Sem Program).run P w = .ok P w := rfl
  simp only [execOp, hx, hy, eqGuard, binOp]
  simp [Sem.run_bind, hp, hg, Result.andThen, equal_run h hk]
end
end Go.SK
