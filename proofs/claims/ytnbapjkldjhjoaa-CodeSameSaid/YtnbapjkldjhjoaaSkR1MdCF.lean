/-
  Walks of functions, and of the laws over them.
-/
import Derived.Test.YtnbapjkldjhjoaaSkO
import Derived.Test.YtnbapjkldjhjoaaProg
import Derived.Test.YtnbapjkldjhjoaaSkR1MdAF
import Derived.Test.YtnbapjkldjhjoaaSkR1MdBF
set_option linter.unusedVariables false
set_option linter.unusedSimpArgs false
namespace Go.SK
open Go Go.Proofs
theorem ent31 : Enters Try.prog 31 := ⟨Try.f31, _, Try.func31, by kernel_rfl, rfl⟩
theorem ent32 : Enters Try.prog 32 := ⟨Try.f32, _, Try.func32, by kernel_rfl, rfl⟩
theorem ent33 : Enters Try.prog 33 := ⟨Try.f33, _, Try.func33, by kernel_rfl, rfl⟩
theorem ty4 : TyF Try.prog 4 .bool 1 1 [.bool false] := TyF.of (by kernel_rfl) (by kernel_rfl)
end Go.SK
