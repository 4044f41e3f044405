/- Parts of an abstract machine and its proofs: QuZ4. -/
import Derived.Test.YtcgejflifhjajaaGreatDoorRows
import Derived.JoinedOf
import GoSem.ClaimGoes
import Derived.KernelRfl

set_option linter.unusedSimpArgs false
set_option linter.unusedVariables false
namespace Go.Proofs.YtcgejflifhjajaaGreatDoor
open Go
theorem fact_unf : Tryz.prog.unfollowed 4 = true := by kernel_rfl
end Go.Proofs.YtcgejflifhjajaaGreatDoor
