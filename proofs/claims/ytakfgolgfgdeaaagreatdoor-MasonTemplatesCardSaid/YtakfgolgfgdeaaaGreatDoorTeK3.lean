/- Parts of an abstract machine and its proofs: TeK3. -/
import Derived.Test.YtakfgolgfgdeaaaGreatDoorTeT
import Derived.KernelRfl

set_option linter.unusedSimpArgs false
set_option linter.unusedVariables false
namespace Go.Am
theorem r0_1_false : isT (rowRunN 0 1 false) = 1 := by kernel_rfl
theorem r1_1_false : isT (rowRunN 1 1 false) = 1 := by kernel_rfl
theorem r2_1_false : isT (rowRunN 2 1 false) = 1 := by kernel_rfl
theorem r3_1_false : isT (rowRunN 3 1 false) = 1 := by kernel_rfl
theorem r4_1_false : isT (rowRunN 4 1 false) = 1 := by kernel_rfl
theorem r5_1_false : isT (rowRunN 5 1 false) = 1 := by kernel_rfl
theorem r6_1_false : isT (rowRunN 6 1 false) = 1 := by kernel_rfl
theorem r7_1_false : isT (rowRunN 7 1 false) = 1 := by kernel_rfl
theorem r8_1_false : isT (rowRunN 8 1 false) = 1 := by kernel_rfl
theorem r9_1_false : isT (rowRunN 9 1 false) = 1 := by kernel_rfl
theorem r_1_false : ∀ n, n < 10 → isT (rowRunN n 1 false) = 1 := lt10 (fun n => isT (rowRunN n 1 false) = 1) r0_1_false r1_1_false r2_1_false r3_1_false r4_1_false r5_1_false r6_1_false r7_1_false r8_1_false r9_1_false
end Go.Am
