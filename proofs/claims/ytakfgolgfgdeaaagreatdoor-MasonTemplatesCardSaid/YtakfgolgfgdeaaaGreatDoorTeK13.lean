/- Parts of an abstract machine and its proofs: TeK13. -/
import Derived.Test.YtakfgolgfgdeaaaGreatDoorTeT
import Derived.KernelRfl

set_option linter.unusedSimpArgs false
set_option linter.unusedVariables false
namespace Go.Am
theorem r0_6_false : isT (rowRunN 0 6 false) = 1 := by kernel_rfl
theorem r1_6_false : isT (rowRunN 1 6 false) = 1 := by kernel_rfl
theorem r2_6_false : isT (rowRunN 2 6 false) = 1 := by kernel_rfl
theorem r3_6_false : isT (rowRunN 3 6 false) = 1 := by kernel_rfl
theorem r4_6_false : isT (rowRunN 4 6 false) = 1 := by kernel_rfl
theorem r5_6_false : isT (rowRunN 5 6 false) = 1 := by kernel_rfl
theorem r6_6_false : isT (rowRunN 6 6 false) = 1 := by kernel_rfl
theorem r7_6_false : isT (rowRunN 7 6 false) = 1 := by kernel_rfl
theorem r8_6_false : isT (rowRunN 8 6 false) = 1 := by kernel_rfl
theorem r9_6_false : isT (rowRunN 9 6 false) = 1 := by kernel_rfl
theorem r_6_false : ∀ n, n < 10 → isT (rowRunN n 6 false) = 1 := lt10 (fun n => isT (rowRunN n 6 false) = 1) r0_6_false r1_6_false r2_6_false r3_6_false r4_6_false r5_6_false r6_6_false r7_6_false r8_6_false r9_6_false
end Go.Am
