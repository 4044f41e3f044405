/- Parts of an abstract machine and its proofs: Z2. -/
import Derived.Test.YtbnklhccpbggiaaGreatDoorRows
import Derived.JoinedOf
import GoSem.ClaimGoes
import Derived.KernelRfl

set_option linter.unusedSimpArgs false
set_option linter.unusedVariables false
/- A closed fact of the row: it starts no goroutine. -/
namespace Go.Proofs.YtbnklhccpbggiaaGreatDoor
open Go
theorem fact_goes : Tryz.prog.funcs.any Func.goes = false := by kernel_rfl
end Go.Proofs.YtbnklhccpbggiaaGreatDoor
