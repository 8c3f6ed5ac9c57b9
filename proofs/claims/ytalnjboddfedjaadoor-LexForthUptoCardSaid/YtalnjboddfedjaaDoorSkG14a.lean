/-
  Steps of functions, plain law, and walks of functions: what the laws rest on.
-/
import Derived.Test.YtalnjboddfedjaaDoorSkG0b
import Derived.Test.YtalnjboddfedjaaDoorSkG1a
import Derived.Test.YtalnjboddfedjaaDoorSkG2a
import Derived.Test.YtalnjboddfedjaaDoorSkG6a
set_option linter.unusedVariables false
set_option linter.unusedSimpArgs false
set_option linter.unusedSectionVars false
namespace Go.SK
open Go.RowKit
section
variable {P : Program} {ty : TypeId} {ρ : Operand → Value} {w : World} {C : Value → World → Prop} {g : FuncId} {tys : Array TypeId}
variable {a1 a2 a3 a4 a5 : Operand} {v1 v2 v3 v4 v5 : Value}
variable {T : TypeId} {d : TypeDesc} {sz bytes : Nat} {zs : List Value} {k : IntKind} {a b : Int}
theorem Op1.sliceMid {x y z : Operand} {s : List UInt8} {k2 : IntKind} {a b : Int} (hT : TyF P T .string sz bytes zs) (hx : ρ x = str s) (hy : ρ y = .int k a) (hz : ρ z = .int k2 b) (h0 : 0 ≤ a) (h1 : a ≤ b) (h2 : b ≤ s.length)
    (hc : C (str ((s.drop a.toNat).take (b.toNat - a.toNat))) w) : Op1 P (.slice T x (some y) (some z) none) ty ρ w C := by
  refine Op1.of (v := str ((s.drop a.toNat).take (b.toNat - a.toNat))) (w' := w) ?_ hc
  have hs : (ByteArray.mk s.toArray).size = s.length := by simp [ByteArray.size]
  have h3 : 0 ≤ b := by omega
  have h4 : max b 0 = b := by omega
  simp [execOp, Instr.sliceAt, Instr.slice, Instr.sliceBounds, Instr.sliceBound, asIntOf, hx, hy, hz, str, Sem.run_bind, hT.run_und, Result.andThen, hs, extract_mk, h0, h1, h2, h3, h4]
end
end Go.SK
