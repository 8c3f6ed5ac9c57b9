/-
  Walks of functions, and of the laws over them.
-/
import Derived.Test.YtheckaonphmmiaaSkO
import Derived.Test.YtheckaonphmmiaaProg
import Derived.Test.YtheckaonphmmiaaSkR2GrAF
import Derived.Test.YtheckaonphmmiaaSkR2GrBF
import Derived.Test.YtheckaonphmmiaaSkR2GrCF
set_option linter.unusedVariables false
set_option linter.unusedSimpArgs false
namespace Go.SK
open Go Go.Proofs
theorem ent13 : Enters Try.prog 13 := ⟨Try.f13, _, Try.func13, by kernel_rfl, rfl⟩
theorem ent30 : Enters Try.prog 30 := ⟨Try.f30, _, Try.func30, by kernel_rfl, rfl⟩
theorem ent14 : Enters Try.prog 14 := ⟨Try.f14, _, Try.func14, by kernel_rfl, rfl⟩
theorem ent15 : Enters Try.prog 15 := ⟨Try.f15, _, Try.func15, by kernel_rfl, rfl⟩
theorem ent16 : Enters Try.prog 16 := ⟨Try.f16, _, Try.func16, by kernel_rfl, rfl⟩
theorem ent17 : Enters Try.prog 17 := ⟨Try.f17, _, Try.func17, by kernel_rfl, rfl⟩
end Go.SK
