/- Parts of an abstract machine and its proofs: LkK2. -/
import Derived.Test.YtakfgolgfgdeaaaGreatDoorLkT
import Derived.KernelRfl

set_option linter.unusedSimpArgs false
set_option linter.unusedVariables false
namespace Go.Am
theorem r0_2 : isT (rowRunN 0 2) = 1 := by kernel_rfl
theorem r1_2 : isT (rowRunN 1 2) = 1 := by kernel_rfl
theorem r2_2 : isT (rowRunN 2 2) = 1 := by kernel_rfl
theorem r3_2 : isT (rowRunN 3 2) = 1 := by kernel_rfl
theorem r4_2 : isT (rowRunN 4 2) = 1 := by kernel_rfl
theorem r5_2 : isT (rowRunN 5 2) = 1 := by kernel_rfl
theorem r6_2 : isT (rowRunN 6 2) = 1 := by kernel_rfl
theorem r7_2 : isT (rowRunN 7 2) = 1 := by kernel_rfl
theorem r8_2 : isT (rowRunN 8 2) = 1 := by kernel_rfl
theorem r9_2 : isT (rowRunN 9 2) = 1 := by kernel_rfl
theorem r_2 : ∀ n, n < 10 → isT (rowRunN n 2) = 1 := lt10 (fun n => isT (rowRunN n 2) = 1) r0_2 r1_2 r2_2 r3_2 r4_2 r5_2 r6_2 r7_2 r8_2 r9_2
end Go.Am
