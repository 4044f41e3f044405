/- Parts of an abstract machine and its proofs: Z3. -/
import Derived.Test.YtnfcebbbbhnpiaaGreatDoorZ0
import Derived.Test.YtnfcebbbbhnpiaaGreatDoorZ1
import Derived.Test.YtnfcebbbbhnpiaaGreatDoorZ2
import Derived.Test.YtnfcebbbbhnpiaaGreatDoorZ4
import Derived.JoinedOf
import Derived.KernelRfl

set_option linter.unusedSimpArgs false
set_option linter.unusedVariables false
/- The closed facts of the row. -/
namespace Go.Proofs.YtnfcebbbbhnpiaaGreatDoor
open Go
theorem fact_unf2 : (Rows.masonAdoptsRow.unfollowed == Tryz.prog.unfollowed 3) = true := by
  rw [fact_unf]; rfl
theorem fact_rec : (Rows.masonAdoptsRow.recurses == Tryz.prog.recurses 3) = true := by
  unfold Program.recurses
  rw [fact_unf]; rfl
set_option maxRecDepth 100000 in
theorem closed : joinedFacts Tryz.prog 3 Tryz.f3 Rows.masonAdoptsSpec Rows.masonAdoptsRow = true := by
  unfold joinedFacts
  rw [fact_inPlace, fact_named, fact_unf2, fact_rec]
  kernel_rfl
end Go.Proofs.YtnfcebbbbhnpiaaGreatDoor
