/- Parts of an abstract machine and its proofs: LkZ3. -/
import Derived.Test.YtakfgolgfgdeaaaGreatDoorLkZ0
import Derived.Test.YtakfgolgfgdeaaaGreatDoorLkZ1
import Derived.Test.YtakfgolgfgdeaaaGreatDoorMaGo
import Derived.Test.YtakfgolgfgdeaaaGreatDoorLkZ4
import Derived.JoinedOf
import Derived.KernelRfl

set_option linter.unusedSimpArgs false
set_option linter.unusedVariables false
namespace Go.Proofs.YtakfgolgfgdeaaaGreatDoor
open Go
theorem fact_unf2 : (Rows.masonLinksRow.unfollowed == Tryz.prog.unfollowed 6) = true := by
  rw [fact_unf]; rfl
theorem fact_rec : (Rows.masonLinksRow.recurses == Tryz.prog.recurses 6) = true := by
  unfold Program.recurses
  rw [fact_unf]; rfl
set_option maxRecDepth 100000 in
theorem closed : joinedFacts Tryz.prog 6 Tryz.f6 Rows.masonLinksSpec Rows.masonLinksRow = true := by
  unfold joinedFacts
  rw [fact_inPlace, fact_named, fact_unf2, fact_rec]
  kernel_rfl
end Go.Proofs.YtakfgolgfgdeaaaGreatDoor
