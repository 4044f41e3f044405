/- Parts of an abstract machine and its proofs: LkK3. -/
import Derived.Test.YtakfgolgfgdeaaaGreatDoorLkT
import Derived.KernelRfl

set_option linter.unusedSimpArgs false
set_option linter.unusedVariables false
namespace Go.Am
theorem r0_3 : isT (rowRunN 0 3) = 1 := by kernel_rfl
theorem r1_3 : isT (rowRunN 1 3) = 1 := by kernel_rfl
theorem r2_3 : isT (rowRunN 2 3) = 1 := by kernel_rfl
theorem r3_3 : isT (rowRunN 3 3) = 1 := by kernel_rfl
theorem r4_3 : isT (rowRunN 4 3) = 1 := by kernel_rfl
theorem r5_3 : isT (rowRunN 5 3) = 1 := by kernel_rfl
theorem r6_3 : isT (rowRunN 6 3) = 1 := by kernel_rfl
theorem r7_3 : isT (rowRunN 7 3) = 1 := by kernel_rfl
theorem r8_3 : isT (rowRunN 8 3) = 1 := by kernel_rfl
theorem r9_3 : isT (rowRunN 9 3) = 1 := by kernel_rfl
theorem r_3 : ∀ n, n < 10 → isT (rowRunN n 3) = 1 := lt10 (fun n => isT (rowRunN n 3) = 1) r0_3 r1_3 r2_3 r3_3 r4_3 r5_3 r6_3 r7_3 r8_3 r9_3
end Go.Am
