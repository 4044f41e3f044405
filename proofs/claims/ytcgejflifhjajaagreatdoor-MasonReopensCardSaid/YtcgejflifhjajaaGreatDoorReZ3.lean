/- Parts of an abstract machine and its proofs: ReZ3. -/
import Derived.Test.YtcgejflifhjajaaGreatDoorReZ0
import Derived.Test.YtcgejflifhjajaaGreatDoorReZ1
import Derived.Test.YtcgejflifhjajaaGreatDoorMaGo
import Derived.Test.YtcgejflifhjajaaGreatDoorReZ4
import Derived.JoinedOf
import Derived.KernelRfl

set_option linter.unusedSimpArgs false
set_option linter.unusedVariables false
namespace Go.Proofs.YtcgejflifhjajaaGreatDoor
open Go
theorem fact_unf2 : (Rows.masonReopensRow.unfollowed == Tryz.prog.unfollowed 3) = true := by
  rw [fact_unf]; rfl
theorem fact_rec : (Rows.masonReopensRow.recurses == Tryz.prog.recurses 3) = true := by
  unfold Program.recurses
  rw [fact_unf]; rfl
set_option maxRecDepth 100000 in
theorem closed : joinedFacts Tryz.prog 3 Tryz.f3 Rows.masonReopensSpec Rows.masonReopensRow = true := by
  unfold joinedFacts
  rw [fact_inPlace, fact_named, fact_unf2, fact_rec]
  kernel_rfl
end Go.Proofs.YtcgejflifhjajaaGreatDoor
