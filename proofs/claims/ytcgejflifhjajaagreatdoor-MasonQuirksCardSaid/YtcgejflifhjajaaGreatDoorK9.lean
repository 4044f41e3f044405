/- Parts of an abstract machine and its proofs: K9. -/
import Derived.Test.YtcgejflifhjajaaGreatDoorMaT
import Derived.KernelRfl

set_option linter.unusedSimpArgs false
set_option linter.unusedVariables false
namespace Go.Am
theorem known_run : isT knownRun = 1 := by kernel_rfl
end Go.Am
