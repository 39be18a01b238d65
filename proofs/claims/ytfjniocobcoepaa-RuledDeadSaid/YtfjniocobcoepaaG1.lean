/- Facts on the functions and types of this seat that its laws are proved from: contracts under the premises that each theorem names. -/
import Derived.Test.YtfjniocobcoepaaFa
import Derived.Test.YtfjniocobcoepaaEnf
set_option linter.unusedSimpArgs false
set_option linter.unusedVariables false
set_option linter.unnecessarySimpa false
namespace Go.Proofs.Ytfjniocobcoepaa
open Go Go.RowKit PB
set_option linter.unusedVariables false
set_option linter.unusedSimpArgs false

theorem guard_idle (a : Addr) : Idle Try.prog 35 [.pointer (some a)] :=
  idle_guard (by kernel_rfl) Try.func35 rfl ⟨_, Try.underlying20⟩ Try.ntmps35 rfl
instance : KeyOk Try.prog 39 := key_struct Try.underlying39 ⟨rfl, by decide, Try.underlying3⟩ ⟨rfl, by decide, Try.underlying3⟩ ⟨rfl, by decide, Try.underlying3⟩ (by kernel_rfl)
theorem info_int : ∃ i, Try.prog.info? 3 = some i ∧ i.size = 1 := by
  obtain ⟨i, h1, _, h3, _⟩ := tinfo_some (P := Try.prog) (t := 3) (TInfo.out)
  exact ⟨i, h1, h3⟩
instance : KeyOk Try.prog 100 := by
  obtain ⟨i, h1, h2⟩ := info_int
  exact key_array Try.underlying100 Try.underlying3 h1 h2
end Go.Proofs.Ytfjniocobcoepaa
