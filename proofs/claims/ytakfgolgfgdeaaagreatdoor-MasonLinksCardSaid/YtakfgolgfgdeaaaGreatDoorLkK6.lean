/- Parts of an abstract machine and its proofs: LkK6. -/
import Derived.Test.YtakfgolgfgdeaaaGreatDoorLkT
import Derived.KernelRfl

set_option linter.unusedSimpArgs false
set_option linter.unusedVariables false
namespace Go.Am
theorem r0_6 : isT (rowRunN 0 6) = 1 := by kernel_rfl
theorem r1_6 : isT (rowRunN 1 6) = 1 := by kernel_rfl
theorem r2_6 : isT (rowRunN 2 6) = 1 := by kernel_rfl
theorem r3_6 : isT (rowRunN 3 6) = 1 := by kernel_rfl
theorem r4_6 : isT (rowRunN 4 6) = 1 := by kernel_rfl
theorem r5_6 : isT (rowRunN 5 6) = 1 := by kernel_rfl
theorem r6_6 : isT (rowRunN 6 6) = 1 := by kernel_rfl
theorem r7_6 : isT (rowRunN 7 6) = 1 := by kernel_rfl
theorem r8_6 : isT (rowRunN 8 6) = 1 := by kernel_rfl
theorem r9_6 : isT (rowRunN 9 6) = 1 := by kernel_rfl
theorem r_6 : ∀ n, n < 10 → isT (rowRunN n 6) = 1 := lt10 (fun n => isT (rowRunN n 6) = 1) r0_6 r1_6 r2_6 r3_6 r4_6 r5_6 r6_6 r7_6 r8_6 r9_6
end Go.Am
