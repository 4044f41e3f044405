/- Parts of an abstract machine and its proofs: TeK17. -/
import Derived.Test.YtakfgolgfgdeaaaGreatDoorTeT
import Derived.KernelRfl

set_option linter.unusedSimpArgs false
set_option linter.unusedVariables false
namespace Go.Am
theorem r0_8_false : isT (rowRunN 0 8 false) = 1 := by kernel_rfl
theorem r1_8_false : isT (rowRunN 1 8 false) = 1 := by kernel_rfl
theorem r2_8_false : isT (rowRunN 2 8 false) = 1 := by kernel_rfl
theorem r3_8_false : isT (rowRunN 3 8 false) = 1 := by kernel_rfl
theorem r4_8_false : isT (rowRunN 4 8 false) = 1 := by kernel_rfl
theorem r5_8_false : isT (rowRunN 5 8 false) = 1 := by kernel_rfl
theorem r6_8_false : isT (rowRunN 6 8 false) = 1 := by kernel_rfl
theorem r7_8_false : isT (rowRunN 7 8 false) = 1 := by kernel_rfl
theorem r8_8_false : isT (rowRunN 8 8 false) = 1 := by kernel_rfl
theorem r9_8_false : isT (rowRunN 9 8 false) = 1 := by kernel_rfl
theorem r_8_false : ∀ n, n < 10 → isT (rowRunN n 8 false) = 1 := lt10 (fun n => isT (rowRunN n 8 false) = 1) r0_8_false r1_8_false r2_8_false r3_8_false r4_8_false r5_8_false r6_8_false r7_8_false r8_8_false r9_8_false
end Go.Am
