/- Parts of an abstract machine and its proofs: TeK15. -/
import Derived.Test.YtakfgolgfgdeaaaGreatDoorTeT
import Derived.KernelRfl

set_option linter.unusedSimpArgs false
set_option linter.unusedVariables false
namespace Go.Am
theorem r0_7_false : isT (rowRunN 0 7 false) = 1 := by kernel_rfl
theorem r1_7_false : isT (rowRunN 1 7 false) = 1 := by kernel_rfl
theorem r2_7_false : isT (rowRunN 2 7 false) = 1 := by kernel_rfl
theorem r3_7_false : isT (rowRunN 3 7 false) = 1 := by kernel_rfl
theorem r4_7_false : isT (rowRunN 4 7 false) = 1 := by kernel_rfl
theorem r5_7_false : isT (rowRunN 5 7 false) = 1 := by kernel_rfl
theorem r6_7_false : isT (rowRunN 6 7 false) = 1 := by kernel_rfl
theorem r7_7_false : isT (rowRunN 7 7 false) = 1 := by kernel_rfl
theorem r8_7_false : isT (rowRunN 8 7 false) = 1 := by kernel_rfl
theorem r9_7_false : isT (rowRunN 9 7 false) = 1 := by kernel_rfl
theorem r_7_false : ∀ n, n < 10 → isT (rowRunN n 7 false) = 1 := lt10 (fun n => isT (rowRunN n 7 false) = 1) r0_7_false r1_7_false r2_7_false r3_7_false r4_7_false r5_7_false r6_7_false r7_7_false r8_7_false r9_7_false
end Go.Am
