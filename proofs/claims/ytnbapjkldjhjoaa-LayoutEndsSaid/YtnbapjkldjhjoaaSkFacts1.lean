/-
  What the kernel reads off the tables of this translation.
-/
import Derived.Test.YtnbapjkldjhjoaaSkF
import Derived.Test.YtnbapjkldjhjoaaProg
set_option linter.unusedVariables false
set_option linter.unusedSimpArgs false
namespace Go.SK
open Go Go.Proofs
theorem ent21 : Enters Try.prog 21 := ⟨Try.f21, _, Try.func21, by kernel_rfl, rfl⟩
theorem ent22 : Enters Try.prog 22 := ⟨Try.f22, _, Try.func22, by kernel_rfl, rfl⟩
theorem ty4 : TyF Try.prog 4 .bool 1 1 [.bool false] := TyF.of (by kernel_rfl) (by kernel_rfl)
theorem ty79 : TyF Try.prog 79 (.array 2 76) 4 32 [.int .i64 0, .int .i64 0, .int .i64 0, .int .i64 0] := TyF.of (by kernel_rfl) (by kernel_rfl)
theorem ty76 : TyF Try.prog 76 (.struct (fieldsOf Try.prog 76)) 2 16 [.int .i64 0, .int .i64 0] := TyF.of (by kernel_rfl) (by kernel_rfl)
theorem fld76_0 : FldF Try.prog 76 0 0 := FldF.of (n := 0) (by kernel_rfl)
theorem ty2 : TyF Try.prog 2 (.int .i64) 1 8 [.int .i64 0] := TyF.of (by kernel_rfl) (by kernel_rfl)
theorem fld76_1 : FldF Try.prog 76 1 1 := FldF.of (n := 0) (by kernel_rfl)
theorem fld25_0 : FldF Try.prog 25 0 0 := FldF.of (n := 0) (by kernel_rfl)
theorem ty21 : TyF Try.prog 21 (.int .i32) 1 4 [.int .i32 0] := TyF.of (by kernel_rfl) (by kernel_rfl)
theorem ent25 : Enters Try.prog 25 := ⟨Try.f25, _, Try.func25, by kernel_rfl, rfl⟩
theorem fld25_1 : FldF Try.prog 25 1 1 := FldF.of (n := 0) (by kernel_rfl)
theorem followsMixed : Try.prog.follows .mixedOrders = true := by kernel_rfl
theorem stf76 : StructF Try.prog 76 [(0, 1), (1, 1)] := ⟨fieldsOf Try.prog 76, by kernel_rfl, fun w => by kernel_rfl⟩
theorem ty25 : TyF Try.prog 25 (.struct (fieldsOf Try.prog 25)) 3 12 [.int .i32 0, .int .i32 0, .int .i32 0] := TyF.of (by kernel_rfl) (by kernel_rfl)
theorem ent52 : Enters Try.prog 52 := ⟨Try.f52, _, Try.func52, by kernel_rfl, rfl⟩
theorem ent53 : Enters Try.prog 53 := ⟨Try.f53, _, Try.func53, by kernel_rfl, rfl⟩
theorem ent55 : Enters Try.prog 55 := ⟨Try.f55, _, Try.func55, by kernel_rfl, rfl⟩
theorem ty27 : TyF Try.prog 27 (.array 3 25) 9 36 [.int .i32 0, .int .i32 0, .int .i32 0, .int .i32 0, .int .i32 0, .int .i32 0, .int .i32 0, .int .i32 0, .int .i32 0] := TyF.of (by kernel_rfl) (by kernel_rfl)
theorem ent27 : Enters Try.prog 27 := ⟨Try.f27, _, Try.func27, by kernel_rfl, rfl⟩
theorem ent26 : Enters Try.prog 26 := ⟨Try.f26, _, Try.func26, by kernel_rfl, rfl⟩
theorem ent54 : Enters Try.prog 54 := ⟨Try.f54, _, Try.func54, by kernel_rfl, rfl⟩
theorem ent28 : Enters Try.prog 28 := ⟨Try.f28, _, Try.func28, by kernel_rfl, rfl⟩
theorem ent23 : Enters Try.prog 23 := ⟨Try.f23, _, Try.func23, by kernel_rfl, rfl⟩
theorem ent24 : Enters Try.prog 24 := ⟨Try.f24, _, Try.func24, by kernel_rfl, rfl⟩
theorem ent29 : Enters Try.prog 29 := ⟨Try.f29, _, Try.func29, by kernel_rfl, rfl⟩
theorem ent30 : Enters Try.prog 30 := ⟨Try.f30, _, Try.func30, by kernel_rfl, rfl⟩
theorem stf25 : StructF Try.prog 25 [(0, 1), (1, 1), (2, 1)] := ⟨fieldsOf Try.prog 25, by kernel_rfl, fun w => by kernel_rfl⟩
end Go.SK
