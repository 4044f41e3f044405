/- Parts of an abstract machine and its proofs: TeK11. -/
import Derived.Test.YtakfgolgfgdeaaaGreatDoorTeT
import Derived.KernelRfl

set_option linter.unusedSimpArgs false
set_option linter.unusedVariables false
namespace Go.Am
theorem r0_5_false : isT (rowRunN 0 5 false) = 1 := by kernel_rfl
theorem r1_5_false : isT (rowRunN 1 5 false) = 1 := by kernel_rfl
theorem r2_5_false : isT (rowRunN 2 5 false) = 1 := by kernel_rfl
theorem r3_5_false : isT (rowRunN 3 5 false) = 1 := by kernel_rfl
theorem r4_5_false : isT (rowRunN 4 5 false) = 1 := by kernel_rfl
theorem r5_5_false : isT (rowRunN 5 5 false) = 1 := by kernel_rfl
theorem r6_5_false : isT (rowRunN 6 5 false) = 1 := by kernel_rfl
theorem r7_5_false : isT (rowRunN 7 5 false) = 1 := by kernel_rfl
theorem r8_5_false : isT (rowRunN 8 5 false) = 1 := by kernel_rfl
theorem r9_5_false : isT (rowRunN 9 5 false) = 1 := by kernel_rfl
theorem r_5_false : ∀ n, n < 10 → isT (rowRunN n 5 false) = 1 := lt10 (fun n => isT (rowRunN n 5 false) = 1) r0_5_false r1_5_false r2_5_false r3_5_false r4_5_false r5_5_false r6_5_false r7_5_false r8_5_false r9_5_false
end Go.Am
