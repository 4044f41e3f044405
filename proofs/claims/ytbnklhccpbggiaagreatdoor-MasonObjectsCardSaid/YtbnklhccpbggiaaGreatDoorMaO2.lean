/- Parts of an abstract machine and its proofs: MaO2. -/
import Derived.Test.YtbnklhccpbggiaaGreatDoorMaO
import Derived.KernelRfl

set_option linter.unusedSimpArgs false
set_option linter.unusedVariables false
/- The codes 250 to 360 fit the program: by the kernel. -/
namespace Go.Am
theorem ok_range_3 : okRange 250 110 = true := by kernel_rfl
end Go.Am

/- The codes 360 to 485 fit the program: by the kernel. -/
namespace Go.Am
theorem ok_range_4 : okRange 360 125 = true := by kernel_rfl
end Go.Am
