/- Parts of an abstract machine and its proofs: MaO1. -/
import Derived.Test.YtbnklhccpbggiaaGreatDoorMaO
import Derived.KernelRfl

set_option linter.unusedSimpArgs false
set_option linter.unusedVariables false
/- The codes 0 to 80 fit the program: by the kernel. -/
namespace Go.Am
theorem ok_range_0 : okRange 0 80 = true := by kernel_rfl
end Go.Am

/- The codes 80 to 160 fit the program: by the kernel. -/
namespace Go.Am
theorem ok_range_1 : okRange 80 80 = true := by kernel_rfl
end Go.Am

/- The codes 160 to 250 fit the program: by the kernel. -/
namespace Go.Am
theorem ok_range_2 : okRange 160 90 = true := by kernel_rfl
end Go.Am
