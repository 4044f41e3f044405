/- Parts of an abstract machine and its proofs: MaO2. -/
import Derived.Test.YtcgejflifhjajaaGreatDoorMaO
import Derived.KernelRfl

set_option linter.unusedSimpArgs false
set_option linter.unusedVariables false
namespace Go.Am
theorem ok_range_3 : okRange 250 110 = true := by kernel_rfl
end Go.Am
namespace Go.Am
theorem ok_range_4 : okRange 360 135 = true := by kernel_rfl
end Go.Am
