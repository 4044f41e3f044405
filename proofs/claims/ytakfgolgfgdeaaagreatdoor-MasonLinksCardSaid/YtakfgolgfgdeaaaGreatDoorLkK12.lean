/- Parts of an abstract machine and its proofs: LkK12. -/
import Derived.Test.YtakfgolgfgdeaaaGreatDoorLkT
import Derived.KernelRfl

set_option linter.unusedSimpArgs false
set_option linter.unusedVariables false
namespace Go.Am
theorem r0_12 : isT (rowRunN 0 12) = 1 := by kernel_rfl
theorem r1_12 : isT (rowRunN 1 12) = 1 := by kernel_rfl
theorem r2_12 : isT (rowRunN 2 12) = 1 := by kernel_rfl
theorem r3_12 : isT (rowRunN 3 12) = 1 := by kernel_rfl
theorem r4_12 : isT (rowRunN 4 12) = 1 := by kernel_rfl
theorem r5_12 : isT (rowRunN 5 12) = 1 := by kernel_rfl
theorem r6_12 : isT (rowRunN 6 12) = 1 := by kernel_rfl
theorem r7_12 : isT (rowRunN 7 12) = 1 := by kernel_rfl
theorem r8_12 : isT (rowRunN 8 12) = 1 := by kernel_rfl
theorem r9_12 : isT (rowRunN 9 12) = 1 := by kernel_rfl
theorem r_12 : ∀ n, n < 10 → isT (rowRunN n 12) = 1 := lt10 (fun n => isT (rowRunN n 12) = 1) r0_12 r1_12 r2_12 r3_12 r4_12 r5_12 r6_12 r7_12 r8_12 r9_12
end Go.Am
