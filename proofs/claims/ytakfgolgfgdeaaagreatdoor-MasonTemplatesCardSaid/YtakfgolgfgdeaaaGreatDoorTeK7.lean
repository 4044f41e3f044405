/- Parts of an abstract machine and its proofs: TeK7. -/
import Derived.Test.YtakfgolgfgdeaaaGreatDoorTeT
import Derived.KernelRfl

set_option linter.unusedSimpArgs false
set_option linter.unusedVariables false
namespace Go.Am
theorem r0_3_false : isT (rowRunN 0 3 false) = 1 := by kernel_rfl
theorem r1_3_false : isT (rowRunN 1 3 false) = 1 := by kernel_rfl
theorem r2_3_false : isT (rowRunN 2 3 false) = 1 := by kernel_rfl
theorem r3_3_false : isT (rowRunN 3 3 false) = 1 := by kernel_rfl
theorem r4_3_false : isT (rowRunN 4 3 false) = 1 := by kernel_rfl
theorem r5_3_false : isT (rowRunN 5 3 false) = 1 := by kernel_rfl
theorem r6_3_false : isT (rowRunN 6 3 false) = 1 := by kernel_rfl
theorem r7_3_false : isT (rowRunN 7 3 false) = 1 := by kernel_rfl
theorem r8_3_false : isT (rowRunN 8 3 false) = 1 := by kernel_rfl
theorem r9_3_false : isT (rowRunN 9 3 false) = 1 := by kernel_rfl
theorem r_3_false : ∀ n, n < 10 → isT (rowRunN n 3 false) = 1 := lt10 (fun n => isT (rowRunN n 3 false) = 1) r0_3_false r1_3_false r2_3_false r3_3_false r4_3_false r5_3_false r6_3_false r7_3_false r8_3_false r9_3_false
end Go.Am
