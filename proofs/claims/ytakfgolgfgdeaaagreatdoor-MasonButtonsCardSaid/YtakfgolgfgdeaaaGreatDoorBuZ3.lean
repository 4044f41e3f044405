/- Parts of an abstract machine and its proofs: BuZ3. -/
import Derived.Test.YtakfgolgfgdeaaaGreatDoorBuZ0
import Derived.Test.YtakfgolgfgdeaaaGreatDoorBuZ1
import Derived.Test.YtakfgolgfgdeaaaGreatDoorMaGo
import Derived.Test.YtakfgolgfgdeaaaGreatDoorBuZ4
import Derived.JoinedOf
import Derived.KernelRfl

set_option linter.unusedSimpArgs false
set_option linter.unusedVariables false
namespace Go.Proofs.YtakfgolgfgdeaaaGreatDoor
open Go
theorem fact_unf2 : (Rows.masonButtonsRow.unfollowed == Tryz.prog.unfollowed 8) = true := by
  rw [fact_unf]; rfl
theorem fact_rec : (Rows.masonButtonsRow.recurses == Tryz.prog.recurses 8) = true := by
  unfold Program.recurses
  rw [fact_unf]; rfl
set_option maxRecDepth 100000 in
theorem closed : joinedFacts Tryz.prog 8 Tryz.f8 Rows.masonButtonsSpec Rows.masonButtonsRow = true := by
  unfold joinedFacts
  rw [fact_inPlace, fact_named, fact_unf2, fact_rec]
  kernel_rfl
end Go.Proofs.YtakfgolgfgdeaaaGreatDoor
