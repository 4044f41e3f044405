/- Parts of an abstract machine and its proofs: LnZ3. -/
import Derived.Test.YtakfgolgfgdeaaaGreatDoorLnZ0
import Derived.Test.YtakfgolgfgdeaaaGreatDoorLnZ1
import Derived.Test.YtakfgolgfgdeaaaGreatDoorMaGo
import Derived.Test.YtakfgolgfgdeaaaGreatDoorLnZ4
import Derived.JoinedOf
import Derived.KernelRfl

set_option linter.unusedSimpArgs false
set_option linter.unusedVariables false
namespace Go.Proofs.YtakfgolgfgdeaaaGreatDoor
open Go
theorem fact_unf2 : (Rows.masonLinesRow.unfollowed == Tryz.prog.unfollowed 7) = true := by
  rw [fact_unf]; rfl
theorem fact_rec : (Rows.masonLinesRow.recurses == Tryz.prog.recurses 7) = true := by
  unfold Program.recurses
  rw [fact_unf]; rfl
set_option maxRecDepth 100000 in
theorem closed : joinedFacts Tryz.prog 7 Tryz.f7 Rows.masonLinesSpec Rows.masonLinesRow = true := by
  unfold joinedFacts
  rw [fact_inPlace, fact_named, fact_unf2, fact_rec]
  kernel_rfl
end Go.Proofs.YtakfgolgfgdeaaaGreatDoor
