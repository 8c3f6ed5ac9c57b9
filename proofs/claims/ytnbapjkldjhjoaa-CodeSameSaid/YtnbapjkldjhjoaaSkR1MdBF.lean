/-
  Walks of functions, and of the laws over them.
-/
import Derived.Test.YtnbapjkldjhjoaaSkO
import Derived.Test.YtnbapjkldjhjoaaProg
import Derived.Test.YtnbapjkldjhjoaaSkR1MdAF
set_option linter.unusedVariables false
set_option linter.unusedSimpArgs false
namespace Go.SK
open Go Go.Proofs
theorem ty37 : TyF Try.prog 37 (.struct (fieldsOf Try.prog 37)) 3 32 [.int .u32 0, .int .u32 0, .slice none 0 0] := TyF.of (by kernel_rfl) (by kernel_rfl)
theorem ent56 : Enters Try.prog 56 := ⟨Try.f56, _, Try.func56, by kernel_rfl, rfl⟩
end Go.SK
