/-
  Walks of functions, and of the laws over them.
-/
import Derived.Test.YtheckaonphmmiaaSkO
import Derived.Test.YtheckaonphmmiaaProg
import Derived.Test.YtheckaonphmmiaaSkR2GrAF
import Derived.Test.YtheckaonphmmiaaSkR2GrBF
set_option linter.unusedVariables false
set_option linter.unusedSimpArgs false
namespace Go.SK
open Go Go.Proofs
theorem ty26 : TyF Try.prog 26 (.struct (fieldsOf Try.prog 26)) 3 24 [.int .u8 0, .int .u32 0, str []] := TyF.of (by kernel_rfl) (by kernel_rfl)
theorem stf26 : StructF Try.prog 26 [(0, 1), (1, 1), (2, 1)] := ⟨fieldsOf Try.prog 26, by kernel_rfl, fun w => by kernel_rfl⟩
theorem ty22 : TyF Try.prog 22 (.slice 26) 1 24 [.slice none 0 0] := TyF.of (by kernel_rfl) (by kernel_rfl)
theorem ent12 : Enters Try.prog 12 := ⟨Try.f12, _, Try.func12, by kernel_rfl, rfl⟩
theorem fld26_0 : FldF Try.prog 26 0 0 := FldF.of (n := 0) (by kernel_rfl)
theorem fld26_1 : FldF Try.prog 26 1 1 := FldF.of (n := 0) (by kernel_rfl)
theorem fld26_2 : FldF Try.prog 26 2 2 := FldF.of (n := 0) (by kernel_rfl)
theorem ent31 : Enters Try.prog 31 := ⟨Try.f31, _, Try.func31, by kernel_rfl, rfl⟩
theorem ent32 : Enters Try.prog 32 := ⟨Try.f32, _, Try.func32, by kernel_rfl, rfl⟩
end Go.SK
