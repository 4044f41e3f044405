/- Parts of an abstract machine and its proofs: Z4. -/
import Derived.Test.YtbnklhccpbggiaaGreatDoorRows
import Derived.JoinedOf
import GoSem.ClaimGoes
import Derived.KernelRfl

set_option linter.unusedSimpArgs false
set_option linter.unusedVariables false
/- A closed fact of the row: something that it calls is not followed by name. -/
namespace Go.Proofs.YtbnklhccpbggiaaGreatDoor
open Go
theorem fact_unf : Tryz.prog.unfollowed 3 = true := by kernel_rfl
end Go.Proofs.YtbnklhccpbggiaaGreatDoor
