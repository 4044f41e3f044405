/- Parts of an abstract machine and its proofs: TeZ3. -/
import Derived.Test.YtakfgolgfgdeaaaGreatDoorTeZ0
import Derived.Test.YtakfgolgfgdeaaaGreatDoorTeZ1
import Derived.Test.YtakfgolgfgdeaaaGreatDoorMaGo
import Derived.Test.YtakfgolgfgdeaaaGreatDoorTeZ4
import Derived.JoinedOf
import Derived.KernelRfl

set_option linter.unusedSimpArgs false
set_option linter.unusedVariables false
namespace Go.Proofs.YtakfgolgfgdeaaaGreatDoor
open Go
theorem fact_unf2 : (Rows.masonTemplatesRow.unfollowed == Tryz.prog.unfollowed 4) = true := by
  rw [fact_unf]; rfl
theorem fact_rec : (Rows.masonTemplatesRow.recurses == Tryz.prog.recurses 4) = true := by
  unfold Program.recurses
  rw [fact_unf]; rfl
set_option maxRecDepth 100000 in
theorem closed : joinedFacts Tryz.prog 4 Tryz.f4 Rows.masonTemplatesSpec Rows.masonTemplatesRow = true := by
  unfold joinedFacts
  rw [fact_inPlace, fact_named, fact_unf2, fact_rec]
  kernel_rfl
end Go.Proofs.YtakfgolgfgdeaaaGreatDoor
