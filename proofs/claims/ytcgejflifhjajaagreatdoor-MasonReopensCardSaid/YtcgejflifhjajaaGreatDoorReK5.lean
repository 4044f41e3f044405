/- Parts of an abstract machine and its proofs: ReK5. -/
import Derived.Test.YtcgejflifhjajaaGreatDoorReT
import Derived.KernelRfl

set_option linter.unusedSimpArgs false
set_option linter.unusedVariables false
namespace Go.Am
theorem r0_2_0 : isT (rowRunN 0 2 0) = 1 := by kernel_rfl
theorem r1_2_0 : isT (rowRunN 1 2 0) = 1 := by kernel_rfl
theorem r2_2_0 : isT (rowRunN 2 2 0) = 1 := by kernel_rfl
theorem r3_2_0 : isT (rowRunN 3 2 0) = 1 := by kernel_rfl
theorem r4_2_0 : isT (rowRunN 4 2 0) = 1 := by kernel_rfl
theorem r5_2_0 : isT (rowRunN 5 2 0) = 1 := by kernel_rfl
theorem r6_2_0 : isT (rowRunN 6 2 0) = 1 := by kernel_rfl
theorem r7_2_0 : isT (rowRunN 7 2 0) = 1 := by kernel_rfl
theorem r8_2_0 : isT (rowRunN 8 2 0) = 1 := by kernel_rfl
theorem r9_2_0 : isT (rowRunN 9 2 0) = 1 := by kernel_rfl
theorem r_2_0 : ∀ n, n < 10 → isT (rowRunN n 2 0) = 1 := lt10 (fun n => isT (rowRunN n 2 0) = 1) r0_2_0 r1_2_0 r2_2_0 r3_2_0 r4_2_0 r5_2_0 r6_2_0 r7_2_0 r8_2_0 r9_2_0
theorem r0_2_1 : isT (rowRunN 0 2 1) = 1 := by kernel_rfl
theorem r1_2_1 : isT (rowRunN 1 2 1) = 1 := by kernel_rfl
theorem r2_2_1 : isT (rowRunN 2 2 1) = 1 := by kernel_rfl
theorem r3_2_1 : isT (rowRunN 3 2 1) = 1 := by kernel_rfl
theorem r4_2_1 : isT (rowRunN 4 2 1) = 1 := by kernel_rfl
theorem r5_2_1 : isT (rowRunN 5 2 1) = 1 := by kernel_rfl
theorem r6_2_1 : isT (rowRunN 6 2 1) = 1 := by kernel_rfl
theorem r7_2_1 : isT (rowRunN 7 2 1) = 1 := by kernel_rfl
theorem r8_2_1 : isT (rowRunN 8 2 1) = 1 := by kernel_rfl
theorem r9_2_1 : isT (rowRunN 9 2 1) = 1 := by kernel_rfl
theorem r_2_1 : ∀ n, n < 10 → isT (rowRunN n 2 1) = 1 := lt10 (fun n => isT (rowRunN n 2 1) = 1) r0_2_1 r1_2_1 r2_2_1 r3_2_1 r4_2_1 r5_2_1 r6_2_1 r7_2_1 r8_2_1 r9_2_1
end Go.Am
