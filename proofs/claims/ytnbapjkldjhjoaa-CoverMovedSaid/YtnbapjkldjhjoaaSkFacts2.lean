/-
  More of what the kernel reads off the tables.
-/
import Derived.Test.YtnbapjkldjhjoaaSkF
import Derived.Test.YtnbapjkldjhjoaaProg
set_option linter.unusedVariables false
set_option linter.unusedSimpArgs false
namespace Go.SK
open Go Go.Proofs
theorem ent45 : Enters Try.prog 45 := ⟨Try.f45, _, Try.func45, by kernel_rfl, rfl⟩
theorem fld56_0 : FldF Try.prog 56 0 0 := FldF.of (n := 0) (by kernel_rfl)
theorem ent46 : Enters Try.prog 46 := ⟨Try.f46, _, Try.func46, by kernel_rfl, rfl⟩
theorem ent48 : Enters Try.prog 48 := ⟨Try.f48, _, Try.func48, by kernel_rfl, rfl⟩
theorem ent47 : Enters Try.prog 47 := ⟨Try.f47, _, Try.func47, by kernel_rfl, rfl⟩
end Go.SK
