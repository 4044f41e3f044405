/- Parts of an abstract machine and its proofs: TeK5. -/
import Derived.Test.YtakfgolgfgdeaaaGreatDoorTeT
import Derived.KernelRfl

set_option linter.unusedSimpArgs false
set_option linter.unusedVariables false
namespace Go.Am
theorem r0_2_false : isT (rowRunN 0 2 false) = 1 := by kernel_rfl
theorem r1_2_false : isT (rowRunN 1 2 false) = 1 := by kernel_rfl
theorem r2_2_false : isT (rowRunN 2 2 false) = 1 := by kernel_rfl
theorem r3_2_false : isT (rowRunN 3 2 false) = 1 := by kernel_rfl
theorem r4_2_false : isT (rowRunN 4 2 false) = 1 := by kernel_rfl
theorem r5_2_false : isT (rowRunN 5 2 false) = 1 := by kernel_rfl
theorem r6_2_false : isT (rowRunN 6 2 false) = 1 := by kernel_rfl
theorem r7_2_false : isT (rowRunN 7 2 false) = 1 := by kernel_rfl
theorem r8_2_false : isT (rowRunN 8 2 false) = 1 := by kernel_rfl
theorem r9_2_false : isT (rowRunN 9 2 false) = 1 := by kernel_rfl
theorem r_2_false : ∀ n, n < 10 → isT (rowRunN n 2 false) = 1 := lt10 (fun n => isT (rowRunN n 2 false) = 1) r0_2_false r1_2_false r2_2_false r3_2_false r4_2_false r5_2_false r6_2_false r7_2_false r8_2_false r9_2_false
end Go.Am
