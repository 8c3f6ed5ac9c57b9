/-
  Walks of functions, and of the laws over them.
-/
import Derived.Test.YtheckaonphmmiaaSkO
import Derived.Test.YtheckaonphmmiaaProg
import Derived.Test.YtheckaonphmmiaaSkR2GrAF
set_option linter.unusedVariables false
set_option linter.unusedSimpArgs false
namespace Go.SK
open Go Go.Proofs
theorem ty24 : TyF Try.prog 24 (.int .u32) 1 4 [.int .u32 0] := TyF.of (by kernel_rfl) (by kernel_rfl)
theorem ty38 : TyF Try.prog 38 (.struct (fieldsOf Try.prog 38)) 8 80 [.int .u16 0, str [], .bool false, .bool false, str [], str [], .int .i64 0, .int .u8 0] := TyF.of (by kernel_rfl) (by kernel_rfl)
theorem stf38 : StructF Try.prog 38 [(0, 1), (1, 1), (2, 1), (3, 1), (4, 1), (5, 1), (6, 1), (7, 1)] := ⟨fieldsOf Try.prog 38, by kernel_rfl, fun w => by kernel_rfl⟩
theorem ent33 : Enters Try.prog 33 := ⟨Try.f33, _, Try.func33, by kernel_rfl, rfl⟩
theorem ent34 : Enters Try.prog 34 := ⟨Try.f34, _, Try.func34, by kernel_rfl, rfl⟩
theorem ent35 : Enters Try.prog 35 := ⟨Try.f35, _, Try.func35, by kernel_rfl, rfl⟩
theorem followsMixed : Try.prog.follows .mixedOrders = true := by kernel_rfl
theorem fld38_2 : FldF Try.prog 38 2 2 := FldF.of (n := 0) (by kernel_rfl)
theorem ty4 : TyF Try.prog 4 .bool 1 1 [.bool false] := TyF.of (by kernel_rfl) (by kernel_rfl)
theorem fld38_3 : FldF Try.prog 38 3 3 := FldF.of (n := 0) (by kernel_rfl)
theorem ty5 : TyF Try.prog 5 (.int .u8) 1 1 [.int .u8 0] := TyF.of (by kernel_rfl) (by kernel_rfl)
theorem ty3 : TyF Try.prog 3 (.int .i64) 1 8 [.int .i64 0] := TyF.of (by kernel_rfl) (by kernel_rfl)
theorem fld38_6 : FldF Try.prog 38 6 6 := FldF.of (n := 0) (by kernel_rfl)
theorem ent18 : Enters Try.prog 18 := ⟨Try.f18, _, Try.func18, by kernel_rfl, rfl⟩
theorem ent19 : Enters Try.prog 19 := ⟨Try.f19, _, Try.func19, by kernel_rfl, rfl⟩
theorem ty36 : TyF Try.prog 36 (.int .u16) 1 2 [.int .u16 0] := TyF.of (by kernel_rfl) (by kernel_rfl)
end Go.SK
