/- Parts of an abstract machine and its proofs: AtZ3. -/
import Derived.Test.YtcgejflifhjajaaGreatDoorAtZ0
import Derived.Test.YtcgejflifhjajaaGreatDoorAtZ1
import Derived.Test.YtcgejflifhjajaaGreatDoorMaGo
import Derived.Test.YtcgejflifhjajaaGreatDoorAtZ4
import Derived.JoinedOf
import Derived.KernelRfl

set_option linter.unusedSimpArgs false
set_option linter.unusedVariables false
namespace Go.Proofs.YtcgejflifhjajaaGreatDoor
open Go
theorem fact_unf2 : (Rows.masonAttrsRow.unfollowed == Tryz.prog.unfollowed 5) = true := by
  rw [fact_unf]; rfl
theorem fact_rec : (Rows.masonAttrsRow.recurses == Tryz.prog.recurses 5) = true := by
  unfold Program.recurses
  rw [fact_unf]; rfl
set_option maxRecDepth 100000 in
theorem closed : joinedFacts Tryz.prog 5 Tryz.f5 Rows.masonAttrsSpec Rows.masonAttrsRow = true := by
  unfold joinedFacts
  rw [fact_inPlace, fact_named, fact_unf2, fact_rec]
  kernel_rfl
end Go.Proofs.YtcgejflifhjajaaGreatDoor
