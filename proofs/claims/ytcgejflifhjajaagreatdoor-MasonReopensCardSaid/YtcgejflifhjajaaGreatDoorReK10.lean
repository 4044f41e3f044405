/- Parts of an abstract machine and its proofs: ReK10. -/
import Derived.Test.YtcgejflifhjajaaGreatDoorReT
import Derived.KernelRfl

set_option linter.unusedSimpArgs false
set_option linter.unusedVariables false
namespace Go.Am
theorem r0_4_0 : isT (rowRunN 0 4 0) = 1 := by kernel_rfl
theorem r1_4_0 : isT (rowRunN 1 4 0) = 1 := by kernel_rfl
theorem r2_4_0 : isT (rowRunN 2 4 0) = 1 := by kernel_rfl
theorem r3_4_0 : isT (rowRunN 3 4 0) = 1 := by kernel_rfl
theorem r4_4_0 : isT (rowRunN 4 4 0) = 1 := by kernel_rfl
theorem r5_4_0 : isT (rowRunN 5 4 0) = 1 := by kernel_rfl
theorem r6_4_0 : isT (rowRunN 6 4 0) = 1 := by kernel_rfl
theorem r7_4_0 : isT (rowRunN 7 4 0) = 1 := by kernel_rfl
theorem r8_4_0 : isT (rowRunN 8 4 0) = 1 := by kernel_rfl
theorem r9_4_0 : isT (rowRunN 9 4 0) = 1 := by kernel_rfl
theorem r_4_0 : ∀ n, n < 10 → isT (rowRunN n 4 0) = 1 := lt10 (fun n => isT (rowRunN n 4 0) = 1) r0_4_0 r1_4_0 r2_4_0 r3_4_0 r4_4_0 r5_4_0 r6_4_0 r7_4_0 r8_4_0 r9_4_0
theorem r0_4_1 : isT (rowRunN 0 4 1) = 1 := by kernel_rfl
theorem r1_4_1 : isT (rowRunN 1 4 1) = 1 := by kernel_rfl
theorem r2_4_1 : isT (rowRunN 2 4 1) = 1 := by kernel_rfl
theorem r3_4_1 : isT (rowRunN 3 4 1) = 1 := by kernel_rfl
theorem r4_4_1 : isT (rowRunN 4 4 1) = 1 := by kernel_rfl
theorem r5_4_1 : isT (rowRunN 5 4 1) = 1 := by kernel_rfl
theorem r6_4_1 : isT (rowRunN 6 4 1) = 1 := by kernel_rfl
theorem r7_4_1 : isT (rowRunN 7 4 1) = 1 := by kernel_rfl
theorem r8_4_1 : isT (rowRunN 8 4 1) = 1 := by kernel_rfl
theorem r9_4_1 : isT (rowRunN 9 4 1) = 1 := by kernel_rfl
theorem r_4_1 : ∀ n, n < 10 → isT (rowRunN n 4 1) = 1 := lt10 (fun n => isT (rowRunN n 4 1) = 1) r0_4_1 r1_4_1 r2_4_1 r3_4_1 r4_4_1 r5_4_1 r6_4_1 r7_4_1 r8_4_1 r9_4_1
end Go.Am
