/- Parts of an abstract machine and its proofs: MaGo. -/
import Derived.Test.YtcgejflifhjajaaGreatDoorRows
import Derived.JoinedOf
import GoSem.ClaimGoes
import Derived.KernelRfl

set_option linter.unusedSimpArgs false
set_option linter.unusedVariables false
namespace Go.Proofs.YtcgejflifhjajaaGreatDoor
open Go
theorem fact_goes : Tryz.prog.funcs.any Func.goes = false := by kernel_rfl
end Go.Proofs.YtcgejflifhjajaaGreatDoor
