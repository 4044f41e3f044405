/- Parts of an abstract machine and its proofs: LkK7. -/
import Derived.Test.YtakfgolgfgdeaaaGreatDoorLkT
import Derived.KernelRfl

set_option linter.unusedSimpArgs false
set_option linter.unusedVariables false
namespace Go.Am
theorem r0_7 : isT (rowRunN 0 7) = 1 := by kernel_rfl
theorem r1_7 : isT (rowRunN 1 7) = 1 := by kernel_rfl
theorem r2_7 : isT (rowRunN 2 7) = 1 := by kernel_rfl
theorem r3_7 : isT (rowRunN 3 7) = 1 := by kernel_rfl
theorem r4_7 : isT (rowRunN 4 7) = 1 := by kernel_rfl
theorem r5_7 : isT (rowRunN 5 7) = 1 := by kernel_rfl
theorem r6_7 : isT (rowRunN 6 7) = 1 := by kernel_rfl
theorem r7_7 : isT (rowRunN 7 7) = 1 := by kernel_rfl
theorem r8_7 : isT (rowRunN 8 7) = 1 := by kernel_rfl
theorem r9_7 : isT (rowRunN 9 7) = 1 := by kernel_rfl
theorem r_7 : ∀ n, n < 10 → isT (rowRunN n 7) = 1 := lt10 (fun n => isT (rowRunN n 7) = 1) r0_7 r1_7 r2_7 r3_7 r4_7 r5_7 r6_7 r7_7 r8_7 r9_7
end Go.Am
