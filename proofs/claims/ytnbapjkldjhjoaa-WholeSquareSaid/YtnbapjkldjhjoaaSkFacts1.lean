/-
  What the kernel reads off the tables of this translation.
-/
import Derived.Test.YtnbapjkldjhjoaaSkF
import Derived.Test.YtnbapjkldjhjoaaProg
set_option linter.unusedVariables false
set_option linter.unusedSimpArgs false
namespace Go.SK
open Go Go.Proofs
theorem ent21 : Enters Try.prog 21 := ⟨Try.f21, _, Try.func21, by kernel_rfl, rfl⟩
theorem ent22 : Enters Try.prog 22 := ⟨Try.f22, _, Try.func22, by kernel_rfl, rfl⟩
theorem ty4 : TyF Try.prog 4 .bool 1 1 [.bool false] := TyF.of (by kernel_rfl) (by kernel_rfl)
theorem ty79 : TyF Try.prog 79 (.array 2 76) 4 32 [.int .i64 0, .int .i64 0, .int .i64 0, .int .i64 0] := TyF.of (by kernel_rfl) (by kernel_rfl)
theorem ty76 : TyF Try.prog 76 (.struct (fieldsOf Try.prog 76)) 2 16 [.int .i64 0, .int .i64 0] := TyF.of (by kernel_rfl) (by kernel_rfl)
theorem fld76_0 : FldF Try.prog 76 0 0 := FldF.of (n := 0) (by kernel_rfl)
theorem ty2 : TyF Try.prog 2 (.int .i64) 1 8 [.int .i64 0] := TyF.of (by kernel_rfl) (by kernel_rfl)
theorem fld76_1 : FldF Try.prog 76 1 1 := FldF.of (n := 0) (by kernel_rfl)
theorem fld25_0 : FldF Try.prog 25 0 0 := FldF.of (n := 0) (by kernel_rfl)
theorem ty21 : TyF Try.prog 21 (.int .i32) 1 4 [.int .i32 0] := TyF.of (by kernel_rfl) (by kernel_rfl)
theorem ent25 : Enters Try.prog 25 := ⟨Try.f25, _, Try.func25, by kernel_rfl, rfl⟩
theorem fld25_1 : FldF Try.prog 25 1 1 := FldF.of (n := 0) (by kernel_rfl)
theorem followsMixed : Try.prog.follows .mixedOrders = true := by kernel_rfl
theorem stf76 : StructF Try.prog 76 [(0, 1), (1, 1)] := ⟨fieldsOf Try.prog 76, by kernel_rfl, fun w => by kernel_rfl⟩
theorem ty25 : TyF Try.prog 25 (.struct (fieldsOf Try.prog 25)) 3 12 [.int .i32 0, .int .i32 0, .int .i32 0] := TyF.of (by kernel_rfl) (by kernel_rfl)
theorem ent52 : Enters Try.prog 52 := ⟨Try.f52, _, Try.func52, by kernel_rfl, rfl⟩
theorem ent53 : Enters Try.prog 53 := ⟨Try.f53, _, Try.func53, by kernel_rfl, rfl⟩
theorem ent55 : Enters Try.prog 55 := ⟨Try.f55, _, Try.func55, by kernel_rfl, rfl⟩
theorem ty27 : TyF Try.prog 27 (.array 3 25) 9 36 [.int .i32 0, .int .i32 0, .int .i32 0, .int .i32 0, .int .i32 0, .int .i32 0, .int .i32 0, .int .i32 0, .int .i32 0] := TyF.of (by kernel_rfl) (by kernel_rfl)
theorem ent27 : Enters Try.prog 27 := ⟨Try.f27, _, Try.func27, by kernel_rfl, rfl⟩
theorem ent26 : Enters Try.prog 26 := ⟨Try.f26, _, Try.func26, by kernel_rfl, rfl⟩
theorem ent54 : Enters Try.prog 54 := ⟨Try.f54, _, Try.func54, by kernel_rfl, rfl⟩
theorem ent28 : Enters Try.prog 28 := ⟨Try.f28, _, Try.func28, by kernel_rfl, rfl⟩
theorem ent23 : Enters Try.prog 23 := ⟨Try.f23, _, Try.func23, by kernel_rfl, rfl⟩
theorem ent24 : Enters Try.prog 24 := ⟨Try.f24, _, Try.func24, by kernel_rfl, rfl⟩
theorem ent29 : Enters Try.prog 29 := ⟨Try.f29, _, Try.func29, by kernel_rfl, rfl⟩
theorem ent30 : Enters Try.prog 30 := ⟨Try.f30, _, Try.func30, by kernel_rfl, rfl⟩
theorem stf25 : StructF Try.prog 25 [(0, 1), (1, 1), (2, 1)] := ⟨fieldsOf Try.prog 25, by kernel_rfl, fun w => by kernel_rfl⟩
theorem ty91 : TyF Try.prog 91 (.array 3 76) 6 48 [.int .i64 0, .int .i64 0, .int .i64 0, .int .i64 0, .int .i64 0, .int .i64 0] := TyF.of (by kernel_rfl) (by kernel_rfl)
theorem ent73 : Enters Try.prog 73 := ⟨Try.f73, _, Try.func73, by kernel_rfl, rfl⟩
theorem ent74 : Enters Try.prog 74 := ⟨Try.f74, _, Try.func74, by kernel_rfl, rfl⟩
theorem ty93 : TyF Try.prog 93 (.func #[79] #[4] false) 1 8 [.nilFunc] := TyF.of (by kernel_rfl) (by kernel_rfl)
theorem ent61 : Enters Try.prog 61 := ⟨Try.f61, _, Try.func61, by kernel_rfl, rfl⟩
theorem ent62 : Enters Try.prog 62 := ⟨Try.f62, _, Try.func62, by kernel_rfl, rfl⟩
theorem ent34 : Enters Try.prog 34 := ⟨Try.f34, _, Try.func34, by kernel_rfl, rfl⟩
theorem ent35 : Enters Try.prog 35 := ⟨Try.f35, _, Try.func35, by kernel_rfl, rfl⟩
theorem fld25_2 : FldF Try.prog 25 2 2 := FldF.of (n := 0) (by kernel_rfl)
theorem ent36 : Enters Try.prog 36 := ⟨Try.f36, _, Try.func36, by kernel_rfl, rfl⟩
theorem fld43_0 : FldF Try.prog 43 0 0 := FldF.of (n := 2) (by kernel_rfl)
theorem fld43_1 : FldF Try.prog 43 1 3 := FldF.of (n := 2) (by kernel_rfl)
theorem fld43_2 : FldF Try.prog 43 2 6 := FldF.of (n := 2) (by kernel_rfl)
theorem fld43_3 : FldF Try.prog 43 3 9 := FldF.of (n := 2) (by kernel_rfl)
theorem ty3 : TyF Try.prog 3 (.int .i64) 1 8 [.int .i64 0] := TyF.of (by kernel_rfl) (by kernel_rfl)
theorem ent37 : Enters Try.prog 37 := ⟨Try.f37, _, Try.func37, by kernel_rfl, rfl⟩
theorem ty47 : TyF Try.prog 47 (.struct (fieldsOf Try.prog 47)) 2 16 [.int .i64 0, .int .i64 0] := TyF.of (by kernel_rfl) (by kernel_rfl)
theorem ty107 : TyF Try.prog 107 (.slice 25) 1 24 [.slice none 0 0] := TyF.of (by kernel_rfl) (by kernel_rfl)
theorem stf47 : StructF Try.prog 47 [(0, 1), (1, 1)] := ⟨fieldsOf Try.prog 47, by kernel_rfl, fun w => by kernel_rfl⟩
theorem ent66 : Enters Try.prog 66 := ⟨Try.f66, _, Try.func66, by kernel_rfl, rfl⟩
theorem ent67 : Enters Try.prog 67 := ⟨Try.f67, _, Try.func67, by kernel_rfl, rfl⟩
theorem ent68 : Enters Try.prog 68 := ⟨Try.f68, _, Try.func68, by kernel_rfl, rfl⟩
theorem ent69 : Enters Try.prog 69 := ⟨Try.f69, _, Try.func69, by kernel_rfl, rfl⟩
theorem fld47_0 : FldF Try.prog 47 0 0 := FldF.of (n := 0) (by kernel_rfl)
theorem fld47_1 : FldF Try.prog 47 1 1 := FldF.of (n := 0) (by kernel_rfl)
theorem ty106 : TyF Try.prog 106 (.slice 3) 1 24 [.slice none 0 0] := TyF.of (by kernel_rfl) (by kernel_rfl)
theorem ent63 : Enters Try.prog 63 := ⟨Try.f63, _, Try.func63, by kernel_rfl, rfl⟩
theorem ent64 : Enters Try.prog 64 := ⟨Try.f64, _, Try.func64, by kernel_rfl, rfl⟩
theorem ent65 : Enters Try.prog 65 := ⟨Try.f65, _, Try.func65, by kernel_rfl, rfl⟩
theorem ty56 : TyF Try.prog 56 (.struct (fieldsOf Try.prog 56)) 3 24 [.int .i64 0, .int .i64 0, .int .i64 0] := TyF.of (by kernel_rfl) (by kernel_rfl)
theorem stf56 : StructF Try.prog 56 [(0, 1), (1, 1), (2, 1)] := ⟨fieldsOf Try.prog 56, by kernel_rfl, fun w => by kernel_rfl⟩
theorem fld56_1 : FldF Try.prog 56 1 1 := FldF.of (n := 0) (by kernel_rfl)
theorem fld56_2 : FldF Try.prog 56 2 2 := FldF.of (n := 0) (by kernel_rfl)
theorem ent39 : Enters Try.prog 39 := ⟨Try.f39, _, Try.func39, by kernel_rfl, rfl⟩
theorem ent71 : Enters Try.prog 71 := ⟨Try.f71, _, Try.func71, by kernel_rfl, rfl⟩
theorem ty50 : TyF Try.prog 50 (.slice 56) 1 24 [.slice none 0 0] := TyF.of (by kernel_rfl) (by kernel_rfl)
theorem ent38 : Enters Try.prog 38 := ⟨Try.f38, _, Try.func38, by kernel_rfl, rfl⟩
theorem ent42 : Enters Try.prog 42 := ⟨Try.f42, _, Try.func42, by kernel_rfl, rfl⟩
theorem ent70 : Enters Try.prog 70 := ⟨Try.f70, _, Try.func70, by kernel_rfl, rfl⟩
theorem ent44 : Enters Try.prog 44 := ⟨Try.f44, _, Try.func44, by kernel_rfl, rfl⟩
theorem ent40 : Enters Try.prog 40 := ⟨Try.f40, _, Try.func40, by kernel_rfl, rfl⟩
theorem ent41 : Enters Try.prog 41 := ⟨Try.f41, _, Try.func41, by kernel_rfl, rfl⟩
theorem ent43 : Enters Try.prog 43 := ⟨Try.f43, _, Try.func43, by kernel_rfl, rfl⟩
end Go.SK
