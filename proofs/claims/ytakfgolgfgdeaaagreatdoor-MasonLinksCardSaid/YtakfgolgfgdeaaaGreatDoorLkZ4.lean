/- Parts of an abstract machine and its proofs: LkZ4. -/
import Derived.Test.YtakfgolgfgdeaaaGreatDoorRows
import Derived.JoinedOf
import GoSem.ClaimGoes
import Derived.KernelRfl

set_option linter.unusedSimpArgs false
set_option linter.unusedVariables false
namespace Go.Proofs.YtakfgolgfgdeaaaGreatDoor
open Go
theorem fact_unf : Tryz.prog.unfollowed 6 = true := by kernel_rfl
end Go.Proofs.YtakfgolgfgdeaaaGreatDoor
