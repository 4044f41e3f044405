/- Parts of an abstract machine and its proofs: AtZ1. -/
import Derived.Test.YtcgejflifhjajaaGreatDoorRows
import Derived.JoinedOf
import GoSem.ClaimGoes
import Derived.KernelRfl

set_option linter.unusedSimpArgs false
set_option linter.unusedVariables false
namespace Go.Proofs.YtcgejflifhjajaaGreatDoor
open Go
theorem fact_named : (Rows.masonAttrsRow.named == Tryz.prog.varsNamed 5) = true := by kernel_rfl
end Go.Proofs.YtcgejflifhjajaaGreatDoor
