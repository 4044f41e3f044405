/- Parts of an abstract machine and its proofs: LkK11. -/
import Derived.Test.YtakfgolgfgdeaaaGreatDoorLkT
import Derived.KernelRfl

set_option linter.unusedSimpArgs false
set_option linter.unusedVariables false
namespace Go.Am
theorem r0_11 : isT (rowRunN 0 11) = 1 := by kernel_rfl
theorem r1_11 : isT (rowRunN 1 11) = 1 := by kernel_rfl
theorem r2_11 : isT (rowRunN 2 11) = 1 := by kernel_rfl
theorem r3_11 : isT (rowRunN 3 11) = 1 := by kernel_rfl
theorem r4_11 : isT (rowRunN 4 11) = 1 := by kernel_rfl
theorem r5_11 : isT (rowRunN 5 11) = 1 := by kernel_rfl
theorem r6_11 : isT (rowRunN 6 11) = 1 := by kernel_rfl
theorem r7_11 : isT (rowRunN 7 11) = 1 := by kernel_rfl
theorem r8_11 : isT (rowRunN 8 11) = 1 := by kernel_rfl
theorem r9_11 : isT (rowRunN 9 11) = 1 := by kernel_rfl
theorem r_11 : ∀ n, n < 10 → isT (rowRunN n 11) = 1 := lt10 (fun n => isT (rowRunN n 11) = 1) r0_11 r1_11 r2_11 r3_11 r4_11 r5_11 r6_11 r7_11 r8_11 r9_11
end Go.Am
