/- Parts of an abstract machine and its proofs: LkK8. -/
import Derived.Test.YtakfgolgfgdeaaaGreatDoorLkT
import Derived.KernelRfl

set_option linter.unusedSimpArgs false
set_option linter.unusedVariables false
namespace Go.Am
theorem r0_8 : isT (rowRunN 0 8) = 1 := by kernel_rfl
theorem r1_8 : isT (rowRunN 1 8) = 1 := by kernel_rfl
theorem r2_8 : isT (rowRunN 2 8) = 1 := by kernel_rfl
theorem r3_8 : isT (rowRunN 3 8) = 1 := by kernel_rfl
theorem r4_8 : isT (rowRunN 4 8) = 1 := by kernel_rfl
theorem r5_8 : isT (rowRunN 5 8) = 1 := by kernel_rfl
theorem r6_8 : isT (rowRunN 6 8) = 1 := by kernel_rfl
theorem r7_8 : isT (rowRunN 7 8) = 1 := by kernel_rfl
theorem r8_8 : isT (rowRunN 8 8) = 1 := by kernel_rfl
theorem r9_8 : isT (rowRunN 9 8) = 1 := by kernel_rfl
theorem r_8 : ∀ n, n < 10 → isT (rowRunN n 8) = 1 := lt10 (fun n => isT (rowRunN n 8) = 1) r0_8 r1_8 r2_8 r3_8 r4_8 r5_8 r6_8 r7_8 r8_8 r9_8
end Go.Am
