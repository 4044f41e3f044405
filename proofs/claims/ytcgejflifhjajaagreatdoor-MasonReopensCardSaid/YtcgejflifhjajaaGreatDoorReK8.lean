/- Parts of an abstract machine and its proofs: ReK8. -/
import Derived.Test.YtcgejflifhjajaaGreatDoorReT
import Derived.KernelRfl

set_option linter.unusedSimpArgs false
set_option linter.unusedVariables false
namespace Go.Am
theorem r0_3_1 : isT (rowRunN 0 3 1) = 1 := by kernel_rfl
theorem r1_3_1 : isT (rowRunN 1 3 1) = 1 := by kernel_rfl
theorem r2_3_1 : isT (rowRunN 2 3 1) = 1 := by kernel_rfl
theorem r3_3_1 : isT (rowRunN 3 3 1) = 1 := by kernel_rfl
theorem r4_3_1 : isT (rowRunN 4 3 1) = 1 := by kernel_rfl
theorem r5_3_1 : isT (rowRunN 5 3 1) = 1 := by kernel_rfl
theorem r6_3_1 : isT (rowRunN 6 3 1) = 1 := by kernel_rfl
theorem r7_3_1 : isT (rowRunN 7 3 1) = 1 := by kernel_rfl
theorem r8_3_1 : isT (rowRunN 8 3 1) = 1 := by kernel_rfl
theorem r9_3_1 : isT (rowRunN 9 3 1) = 1 := by kernel_rfl
theorem r_3_1 : ∀ n, n < 10 → isT (rowRunN n 3 1) = 1 := lt10 (fun n => isT (rowRunN n 3 1) = 1) r0_3_1 r1_3_1 r2_3_1 r3_3_1 r4_3_1 r5_3_1 r6_3_1 r7_3_1 r8_3_1 r9_3_1
theorem r0_3_2 : isT (rowRunN 0 3 2) = 1 := by kernel_rfl
theorem r1_3_2 : isT (rowRunN 1 3 2) = 1 := by kernel_rfl
theorem r2_3_2 : isT (rowRunN 2 3 2) = 1 := by kernel_rfl
theorem r3_3_2 : isT (rowRunN 3 3 2) = 1 := by kernel_rfl
theorem r4_3_2 : isT (rowRunN 4 3 2) = 1 := by kernel_rfl
theorem r5_3_2 : isT (rowRunN 5 3 2) = 1 := by kernel_rfl
theorem r6_3_2 : isT (rowRunN 6 3 2) = 1 := by kernel_rfl
theorem r7_3_2 : isT (rowRunN 7 3 2) = 1 := by kernel_rfl
theorem r8_3_2 : isT (rowRunN 8 3 2) = 1 := by kernel_rfl
theorem r9_3_2 : isT (rowRunN 9 3 2) = 1 := by kernel_rfl
theorem r_3_2 : ∀ n, n < 10 → isT (rowRunN n 3 2) = 1 := lt10 (fun n => isT (rowRunN n 3 2) = 1) r0_3_2 r1_3_2 r2_3_2 r3_3_2 r4_3_2 r5_3_2 r6_3_2 r7_3_2 r8_3_2 r9_3_2
end Go.Am
