/- Parts of an abstract machine and its proofs: Z3. -/
import Derived.Test.YtbnklhccpbggiaaGreatDoorZ0
import Derived.Test.YtbnklhccpbggiaaGreatDoorZ1
import Derived.Test.YtbnklhccpbggiaaGreatDoorZ2
import Derived.Test.YtbnklhccpbggiaaGreatDoorZ4
import Derived.JoinedOf
import Derived.KernelRfl

set_option linter.unusedSimpArgs false
set_option linter.unusedVariables false
/- The closed facts of the row. -/
namespace Go.Proofs.YtbnklhccpbggiaaGreatDoor
open Go
theorem fact_unf2 : (Rows.masonObjectsRow.unfollowed == Tryz.prog.unfollowed 3) = true := by
  rw [fact_unf]; rfl
theorem fact_rec : (Rows.masonObjectsRow.recurses == Tryz.prog.recurses 3) = true := by
  unfold Program.recurses
  rw [fact_unf]; rfl
set_option maxRecDepth 100000 in
theorem closed : joinedFacts Tryz.prog 3 Tryz.f3 Rows.masonObjectsSpec Rows.masonObjectsRow = true := by
  unfold joinedFacts
  rw [fact_inPlace, fact_named, fact_unf2, fact_rec]
  kernel_rfl
end Go.Proofs.YtbnklhccpbggiaaGreatDoor
