/- Parts of an abstract machine and its proofs: LnZ0. -/
import Derived.Test.YtakfgolgfgdeaaaGreatDoorRows
import Derived.JoinedOf
import GoSem.ClaimGoes
import Derived.KernelRfl

set_option linter.unusedSimpArgs false
set_option linter.unusedVariables false
namespace Go.Proofs.YtakfgolgfgdeaaaGreatDoor
open Go
theorem fact_inPlace : (Rows.masonLinesRow.inPlace == Tryz.prog.inPlace 7) = true := by kernel_rfl
end Go.Proofs.YtakfgolgfgdeaaaGreatDoor
