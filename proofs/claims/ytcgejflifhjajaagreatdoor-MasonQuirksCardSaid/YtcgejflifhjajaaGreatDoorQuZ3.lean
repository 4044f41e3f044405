/- Parts of an abstract machine and its proofs: QuZ3. -/
import Derived.Test.YtcgejflifhjajaaGreatDoorQuZ0
import Derived.Test.YtcgejflifhjajaaGreatDoorQuZ1
import Derived.Test.YtcgejflifhjajaaGreatDoorMaGo
import Derived.Test.YtcgejflifhjajaaGreatDoorQuZ4
import Derived.JoinedOf
import Derived.KernelRfl

set_option linter.unusedSimpArgs false
set_option linter.unusedVariables false
namespace Go.Proofs.YtcgejflifhjajaaGreatDoor
open Go
theorem fact_unf2 : (Rows.masonQuirksRow.unfollowed == Tryz.prog.unfollowed 4) = true := by
  rw [fact_unf]; rfl
theorem fact_rec : (Rows.masonQuirksRow.recurses == Tryz.prog.recurses 4) = true := by
  unfold Program.recurses
  rw [fact_unf]; rfl
set_option maxRecDepth 100000 in
theorem closed : joinedFacts Tryz.prog 4 Tryz.f4 Rows.masonQuirksSpec Rows.masonQuirksRow = true := by
  unfold joinedFacts
  rw [fact_inPlace, fact_named, fact_unf2, fact_rec]
  kernel_rfl
end Go.Proofs.YtcgejflifhjajaaGreatDoor
