/- Parts of an abstract machine and its proofs: LkK5. -/
import Derived.Test.YtakfgolgfgdeaaaGreatDoorLkT
import Derived.KernelRfl

set_option linter.unusedSimpArgs false
set_option linter.unusedVariables false
namespace Go.Am
theorem r0_5 : isT (rowRunN 0 5) = 1 := by kernel_rfl
theorem r1_5 : isT (rowRunN 1 5) = 1 := by kernel_rfl
theorem r2_5 : isT (rowRunN 2 5) = 1 := by kernel_rfl
theorem r3_5 : isT (rowRunN 3 5) = 1 := by kernel_rfl
theorem r4_5 : isT (rowRunN 4 5) = 1 := by kernel_rfl
theorem r5_5 : isT (rowRunN 5 5) = 1 := by kernel_rfl
theorem r6_5 : isT (rowRunN 6 5) = 1 := by kernel_rfl
theorem r7_5 : isT (rowRunN 7 5) = 1 := by kernel_rfl
theorem r8_5 : isT (rowRunN 8 5) = 1 := by kernel_rfl
theorem r9_5 : isT (rowRunN 9 5) = 1 := by kernel_rfl
theorem r_5 : ∀ n, n < 10 → isT (rowRunN n 5) = 1 := lt10 (fun n => isT (rowRunN n 5) = 1) r0_5 r1_5 r2_5 r3_5 r4_5 r5_5 r6_5 r7_5 r8_5 r9_5
end Go.Am
