/-
  More of what the kernel reads off the tables.
-/
import Derived.Test.YtnbapjkldjhjoaaSkF
import Derived.Test.YtnbapjkldjhjoaaProg
set_option linter.unusedVariables false
set_option linter.unusedSimpArgs false
namespace Go.SK
open Go Go.Proofs
theorem ent45 : Enters Try.prog 45 := ⟨Try.f45, _, Try.func45, by kernel_rfl, rfl⟩
theorem fld56_0 : FldF Try.prog 56 0 0 := FldF.of (n := 0) (by kernel_rfl)
theorem ent46 : Enters Try.prog 46 := ⟨Try.f46, _, Try.func46, by kernel_rfl, rfl⟩
theorem ent48 : Enters Try.prog 48 := ⟨Try.f48, _, Try.func48, by kernel_rfl, rfl⟩
theorem ent47 : Enters Try.prog 47 := ⟨Try.f47, _, Try.func47, by kernel_rfl, rfl⟩
theorem ent51 : Enters Try.prog 51 := ⟨Try.f51, _, Try.func51, by kernel_rfl, rfl⟩
theorem ent49 : Enters Try.prog 49 := ⟨Try.f49, _, Try.func49, by kernel_rfl, rfl⟩
theorem ty71 : TyF Try.prog 71 (.func #[59] #[] false) 1 8 [.nilFunc] := TyF.of (by kernel_rfl) (by kernel_rfl)
theorem ent72 : Enters Try.prog 72 := ⟨Try.f72, _, Try.func72, by kernel_rfl, rfl⟩
theorem ent50 : Enters Try.prog 50 := ⟨Try.f50, _, Try.func50, by kernel_rfl, rfl⟩
theorem fld67_0 : FldF Try.prog 67 0 0 := FldF.of (n := 0) (by kernel_rfl)
theorem fld67_2 : FldF Try.prog 67 2 2 := FldF.of (n := 0) (by kernel_rfl)
theorem fld67_1 : FldF Try.prog 67 1 1 := FldF.of (n := 0) (by kernel_rfl)
theorem fld67_3 : FldF Try.prog 67 3 3 := FldF.of (n := 0) (by kernel_rfl)
theorem ty68 : TyF Try.prog 68 (.array 4096 3) 4096 32768 (List.replicate 4096 (.int .i64 0)) := TyF.of (by kernel_rfl) (by kernel_rfl)
theorem fld67_6 : FldF Try.prog 67 6 6 := FldF.of (n := 0) (by kernel_rfl)
theorem fld67_5 : FldF Try.prog 67 5 5 := FldF.of (n := 0) (by kernel_rfl)
theorem fld67_4 : FldF Try.prog 67 4 4 := FldF.of (n := 0) (by kernel_rfl)
end Go.SK
