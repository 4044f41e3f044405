/- Parts of an abstract machine and its proofs: TeK1. -/
import Derived.Test.YtakfgolgfgdeaaaGreatDoorTeT
import Derived.KernelRfl

set_option linter.unusedSimpArgs false
set_option linter.unusedVariables false
namespace Go.Am
theorem r0_0_false : isT (rowRunN 0 0 false) = 1 := by kernel_rfl
theorem r1_0_false : isT (rowRunN 1 0 false) = 1 := by kernel_rfl
theorem r2_0_false : isT (rowRunN 2 0 false) = 1 := by kernel_rfl
theorem r3_0_false : isT (rowRunN 3 0 false) = 1 := by kernel_rfl
theorem r4_0_false : isT (rowRunN 4 0 false) = 1 := by kernel_rfl
theorem r5_0_false : isT (rowRunN 5 0 false) = 1 := by kernel_rfl
theorem r6_0_false : isT (rowRunN 6 0 false) = 1 := by kernel_rfl
theorem r7_0_false : isT (rowRunN 7 0 false) = 1 := by kernel_rfl
theorem r8_0_false : isT (rowRunN 8 0 false) = 1 := by kernel_rfl
theorem r9_0_false : isT (rowRunN 9 0 false) = 1 := by kernel_rfl
theorem r_0_false : ∀ n, n < 10 → isT (rowRunN n 0 false) = 1 := lt10 (fun n => isT (rowRunN n 0 false) = 1) r0_0_false r1_0_false r2_0_false r3_0_false r4_0_false r5_0_false r6_0_false r7_0_false r8_0_false r9_0_false
end Go.Am
