/- Parts of an abstract machine and its proofs: LkK9. -/
import Derived.Test.YtakfgolgfgdeaaaGreatDoorLkT
import Derived.KernelRfl

set_option linter.unusedSimpArgs false
set_option linter.unusedVariables false
namespace Go.Am
theorem r0_9 : isT (rowRunN 0 9) = 1 := by kernel_rfl
theorem r1_9 : isT (rowRunN 1 9) = 1 := by kernel_rfl
theorem r2_9 : isT (rowRunN 2 9) = 1 := by kernel_rfl
theorem r3_9 : isT (rowRunN 3 9) = 1 := by kernel_rfl
theorem r4_9 : isT (rowRunN 4 9) = 1 := by kernel_rfl
theorem r5_9 : isT (rowRunN 5 9) = 1 := by kernel_rfl
theorem r6_9 : isT (rowRunN 6 9) = 1 := by kernel_rfl
theorem r7_9 : isT (rowRunN 7 9) = 1 := by kernel_rfl
theorem r8_9 : isT (rowRunN 8 9) = 1 := by kernel_rfl
theorem r9_9 : isT (rowRunN 9 9) = 1 := by kernel_rfl
theorem r_9 : ∀ n, n < 10 → isT (rowRunN n 9) = 1 := lt10 (fun n => isT (rowRunN n 9) = 1) r0_9 r1_9 r2_9 r3_9 r4_9 r5_9 r6_9 r7_9 r8_9 r9_9
end Go.Am
