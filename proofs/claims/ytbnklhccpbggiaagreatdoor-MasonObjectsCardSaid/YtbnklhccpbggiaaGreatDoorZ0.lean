/- Parts of an abstract machine and its proofs: Z0. -/
import Derived.Test.YtbnklhccpbggiaaGreatDoorRows
import Derived.JoinedOf
import GoSem.ClaimGoes
import Derived.KernelRfl

set_option linter.unusedSimpArgs false
set_option linter.unusedVariables false
/- A closed fact of the row: what runs in place. -/
namespace Go.Proofs.YtbnklhccpbggiaaGreatDoor
open Go
theorem fact_inPlace : (Rows.masonObjectsRow.inPlace == Tryz.prog.inPlace 3) = true := by kernel_rfl
end Go.Proofs.YtbnklhccpbggiaaGreatDoor
