/-
  Walks of functions, and of the laws over them.
-/
import Derived.Test.YtheckaonphmmiaaSkO
import Derived.Test.YtheckaonphmmiaaProg
set_option linter.unusedVariables false
set_option linter.unusedSimpArgs false
namespace Go.SK
open Go Go.Proofs
theorem ent38 : Enters Try.prog 38 := ⟨Try.f38, _, Try.func38, by kernel_rfl, rfl⟩
theorem ent39 : Enters Try.prog 39 := ⟨Try.f39, _, Try.func39, by kernel_rfl, rfl⟩
theorem ent40 : Enters Try.prog 40 := ⟨Try.f40, _, Try.func40, by kernel_rfl, rfl⟩
theorem ty64 : TyF Try.prog 64 (.array 6 9) 6 96 [str [], str [], str [], str [], str [], str []] := TyF.of (by kernel_rfl) (by kernel_rfl)
theorem ty9 : TyF Try.prog 9 .string 1 16 [str []] := TyF.of (by kernel_rfl) (by kernel_rfl)
theorem ty21 : TyF Try.prog 21 (.int .i32) 1 4 [.int .i32 0] := TyF.of (by kernel_rfl) (by kernel_rfl)
end Go.SK
