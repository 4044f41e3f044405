/- Parts of an abstract machine and its proofs: Z1. -/
import Derived.Test.YtbnklhccpbggiaaGreatDoorRows
import Derived.JoinedOf
import GoSem.ClaimGoes
import Derived.KernelRfl

set_option linter.unusedSimpArgs false
set_option linter.unusedVariables false
/- A closed fact of the row: the variables that it names. -/
namespace Go.Proofs.YtbnklhccpbggiaaGreatDoor
open Go
theorem fact_named : (Rows.masonObjectsRow.named == Tryz.prog.varsNamed 3) = true := by kernel_rfl
end Go.Proofs.YtbnklhccpbggiaaGreatDoor
