/- Parts of an abstract machine and its proofs: LkK10. -/
import Derived.Test.YtakfgolgfgdeaaaGreatDoorLkT
import Derived.KernelRfl

set_option linter.unusedSimpArgs false
set_option linter.unusedVariables false
namespace Go.Am
theorem r0_10 : isT (rowRunN 0 10) = 1 := by kernel_rfl
theorem r1_10 : isT (rowRunN 1 10) = 1 := by kernel_rfl
theorem r2_10 : isT (rowRunN 2 10) = 1 := by kernel_rfl
theorem r3_10 : isT (rowRunN 3 10) = 1 := by kernel_rfl
theorem r4_10 : isT (rowRunN 4 10) = 1 := by kernel_rfl
theorem r5_10 : isT (rowRunN 5 10) = 1 := by kernel_rfl
theorem r6_10 : isT (rowRunN 6 10) = 1 := by kernel_rfl
theorem r7_10 : isT (rowRunN 7 10) = 1 := by kernel_rfl
theorem r8_10 : isT (rowRunN 8 10) = 1 := by kernel_rfl
theorem r9_10 : isT (rowRunN 9 10) = 1 := by kernel_rfl
theorem r_10 : ∀ n, n < 10 → isT (rowRunN n 10) = 1 := lt10 (fun n => isT (rowRunN n 10) = 1) r0_10 r1_10 r2_10 r3_10 r4_10 r5_10 r6_10 r7_10 r8_10 r9_10
end Go.Am
