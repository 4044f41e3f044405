/- Parts of an abstract machine and its proofs: ReZ1. -/
import Derived.Test.YtcgejflifhjajaaGreatDoorRows
import Derived.JoinedOf
import GoSem.ClaimGoes
import Derived.KernelRfl

set_option linter.unusedSimpArgs false
set_option linter.unusedVariables false
namespace Go.Proofs.YtcgejflifhjajaaGreatDoor
open Go
theorem fact_named : (Rows.masonReopensRow.named == Tryz.prog.varsNamed 3) = true := by kernel_rfl
end Go.Proofs.YtcgejflifhjajaaGreatDoor
