/- Parts of an abstract machine and its proofs: MaO1. -/
import Derived.Test.YtcgejflifhjajaaGreatDoorMaO
import Derived.KernelRfl

set_option linter.unusedSimpArgs false
set_option linter.unusedVariables false
namespace Go.Am
theorem ok_range_0 : okRange 0 80 = true := by kernel_rfl
end Go.Am
namespace Go.Am
theorem ok_range_1 : okRange 80 80 = true := by kernel_rfl
end Go.Am
namespace Go.Am
theorem ok_range_2 : okRange 160 90 = true := by kernel_rfl
end Go.Am
