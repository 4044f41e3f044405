/- Parts of an abstract machine and its proofs: TeK9. -/
import Derived.Test.YtakfgolgfgdeaaaGreatDoorTeT
import Derived.KernelRfl

set_option linter.unusedSimpArgs false
set_option linter.unusedVariables false
namespace Go.Am
theorem r0_4_false : isT (rowRunN 0 4 false) = 1 := by kernel_rfl
theorem r1_4_false : isT (rowRunN 1 4 false) = 1 := by kernel_rfl
theorem r2_4_false : isT (rowRunN 2 4 false) = 1 := by kernel_rfl
theorem r3_4_false : isT (rowRunN 3 4 false) = 1 := by kernel_rfl
theorem r4_4_false : isT (rowRunN 4 4 false) = 1 := by kernel_rfl
theorem r5_4_false : isT (rowRunN 5 4 false) = 1 := by kernel_rfl
theorem r6_4_false : isT (rowRunN 6 4 false) = 1 := by kernel_rfl
theorem r7_4_false : isT (rowRunN 7 4 false) = 1 := by kernel_rfl
theorem r8_4_false : isT (rowRunN 8 4 false) = 1 := by kernel_rfl
theorem r9_4_false : isT (rowRunN 9 4 false) = 1 := by kernel_rfl
theorem r_4_false : ∀ n, n < 10 → isT (rowRunN n 4 false) = 1 := lt10 (fun n => isT (rowRunN n 4 false) = 1) r0_4_false r1_4_false r2_4_false r3_4_false r4_4_false r5_4_false r6_4_false r7_4_false r8_4_false r9_4_false
end Go.Am
