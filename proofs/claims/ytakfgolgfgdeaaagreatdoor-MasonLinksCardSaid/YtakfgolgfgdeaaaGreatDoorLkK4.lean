/- Parts of an abstract machine and its proofs: LkK4. -/
import Derived.Test.YtakfgolgfgdeaaaGreatDoorLkT
import Derived.KernelRfl

set_option linter.unusedSimpArgs false
set_option linter.unusedVariables false
namespace Go.Am
theorem r0_4 : isT (rowRunN 0 4) = 1 := by kernel_rfl
theorem r1_4 : isT (rowRunN 1 4) = 1 := by kernel_rfl
theorem r2_4 : isT (rowRunN 2 4) = 1 := by kernel_rfl
theorem r3_4 : isT (rowRunN 3 4) = 1 := by kernel_rfl
theorem r4_4 : isT (rowRunN 4 4) = 1 := by kernel_rfl
theorem r5_4 : isT (rowRunN 5 4) = 1 := by kernel_rfl
theorem r6_4 : isT (rowRunN 6 4) = 1 := by kernel_rfl
theorem r7_4 : isT (rowRunN 7 4) = 1 := by kernel_rfl
theorem r8_4 : isT (rowRunN 8 4) = 1 := by kernel_rfl
theorem r9_4 : isT (rowRunN 9 4) = 1 := by kernel_rfl
theorem r_4 : ∀ n, n < 10 → isT (rowRunN n 4) = 1 := lt10 (fun n => isT (rowRunN n 4) = 1) r0_4 r1_4 r2_4 r3_4 r4_4 r5_4 r6_4 r7_4 r8_4 r9_4
end Go.Am
