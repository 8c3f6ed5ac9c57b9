/-
  Walks of functions, and of the laws over them.
-/
import Derived.Test.YtnbapjkldjhjoaaSkO
import Derived.Test.YtnbapjkldjhjoaaProg
set_option linter.unusedVariables false
set_option linter.unusedSimpArgs false
namespace Go.SK
open Go Go.Proofs
theorem fld84_0 : FldF Try.prog 84 0 0 := FldF.of (n := 0) (by kernel_rfl)
theorem ty22 : TyF Try.prog 22 (.int .u16) 1 2 [.int .u16 0] := TyF.of (by kernel_rfl) (by kernel_rfl)
theorem fld84_1 : FldF Try.prog 84 1 1 := FldF.of (n := 0) (by kernel_rfl)
theorem ty34 : TyF Try.prog 34 (.int .u32) 1 4 [.int .u32 0] := TyF.of (by kernel_rfl) (by kernel_rfl)
theorem fld84_2 : FldF Try.prog 84 2 2 := FldF.of (n := 0) (by kernel_rfl)
theorem fld84_3 : FldF Try.prog 84 3 3 := FldF.of (n := 0) (by kernel_rfl)
theorem ty82 : TyF Try.prog 82 (.slice 89) 1 24 [.slice none 0 0] := TyF.of (by kernel_rfl) (by kernel_rfl)
theorem ty89 : TyF Try.prog 89 (.struct (fieldsOf Try.prog 89)) 3 24 [.int .u8 0, .int .u32 0, str []] := TyF.of (by kernel_rfl) (by kernel_rfl)
theorem followsMixed : Try.prog.follows .mixedOrders = true := by kernel_rfl
theorem ty5 : TyF Try.prog 5 (.int .u8) 1 1 [.int .u8 0] := TyF.of (by kernel_rfl) (by kernel_rfl)
theorem ty9 : TyF Try.prog 9 .string 1 16 [str []] := TyF.of (by kernel_rfl) (by kernel_rfl)
theorem ent59 : Enters Try.prog 59 := ⟨Try.f59, _, Try.func59, by kernel_rfl, rfl⟩
theorem ty35 : TyF Try.prog 35 (.slice 84) 1 24 [.slice none 0 0] := TyF.of (by kernel_rfl) (by kernel_rfl)
theorem ty84 : TyF Try.prog 84 (.struct (fieldsOf Try.prog 84)) 4 40 [.int .u16 0, .int .u32 0, .int .u32 0, .slice none 0 0] := TyF.of (by kernel_rfl) (by kernel_rfl)
theorem ent58 : Enters Try.prog 58 := ⟨Try.f58, _, Try.func58, by kernel_rfl, rfl⟩
theorem fld37_0 : FldF Try.prog 37 0 0 := FldF.of (n := 0) (by kernel_rfl)
theorem fld37_1 : FldF Try.prog 37 1 1 := FldF.of (n := 0) (by kernel_rfl)
theorem fld37_2 : FldF Try.prog 37 2 2 := FldF.of (n := 0) (by kernel_rfl)
theorem ent60 : Enters Try.prog 60 := ⟨Try.f60, _, Try.func60, by kernel_rfl, rfl⟩
theorem ent57 : Enters Try.prog 57 := ⟨Try.f57, _, Try.func57, by kernel_rfl, rfl⟩
end Go.SK
