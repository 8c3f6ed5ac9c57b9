/-
  Walks of functions, and of the laws over them.
-/
import Derived.Test.YtheckaonphmmiaaSkO
import Derived.Test.YtheckaonphmmiaaProg
import Derived.Test.YtheckaonphmmiaaSkR2GrAF
import Derived.Test.YtheckaonphmmiaaSkR2GrBF
import Derived.Test.YtheckaonphmmiaaSkR2GrCF
import Derived.Test.YtheckaonphmmiaaSkR2GrDF
import Derived.Test.YtheckaonphmmiaaSkR2GrEF
set_option linter.unusedVariables false
set_option linter.unusedSimpArgs false
namespace Go.SK
open Go Go.Proofs
theorem ent20 : Enters Try.prog 20 := ⟨Try.f20, _, Try.func20, by kernel_rfl, rfl⟩
theorem ent21 : Enters Try.prog 21 := ⟨Try.f21, _, Try.func21, by kernel_rfl, rfl⟩
theorem ty45 : TyF Try.prog 45 (.func #[66] #[] false) 1 8 [.nilFunc] := TyF.of (by kernel_rfl) (by kernel_rfl)
theorem ent36 : Enters Try.prog 36 := ⟨Try.f36, _, Try.func36, by kernel_rfl, rfl⟩
theorem fld38_1 : FldF Try.prog 38 1 1 := FldF.of (n := 0) (by kernel_rfl)
theorem ent22 : Enters Try.prog 22 := ⟨Try.f22, _, Try.func22, by kernel_rfl, rfl⟩
theorem ent23 : Enters Try.prog 23 := ⟨Try.f23, _, Try.func23, by kernel_rfl, rfl⟩
theorem fld68_0 : FldF Try.prog 68 0 0 := FldF.of (n := 7) (by kernel_rfl)
theorem fld38_4 : FldF Try.prog 38 4 4 := FldF.of (n := 0) (by kernel_rfl)
theorem fld38_5 : FldF Try.prog 38 5 5 := FldF.of (n := 0) (by kernel_rfl)
theorem ty68 : TyF Try.prog 68 (.struct (fieldsOf Try.prog 68)) 8 80 [.int .u16 0, str [], .bool false, .bool false, str [], str [], .int .i64 0, .int .u8 0] := TyF.of (by kernel_rfl) (by kernel_rfl)
theorem ty70 : TyF Try.prog 70 (.slice 69) 1 24 [.slice none 0 0] := TyF.of (by kernel_rfl) (by kernel_rfl)
theorem ty69 : TyF Try.prog 69 (.func #[3] #[5] false) 1 8 [.nilFunc] := TyF.of (by kernel_rfl) (by kernel_rfl)
theorem ent41 : Enters Try.prog 41 := ⟨Try.f41, _, Try.func41, by kernel_rfl, rfl⟩
theorem ent42 : Enters Try.prog 42 := ⟨Try.f42, _, Try.func42, by kernel_rfl, rfl⟩
theorem stf68 : StructF Try.prog 68 [(0, 8)] := ⟨fieldsOf Try.prog 68, by kernel_rfl, fun w => by kernel_rfl⟩
theorem ent37 : Enters Try.prog 37 := ⟨Try.f37, _, Try.func37, by kernel_rfl, rfl⟩
end Go.SK
