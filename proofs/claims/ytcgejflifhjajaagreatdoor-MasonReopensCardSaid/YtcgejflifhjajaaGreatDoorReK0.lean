/- Parts of an abstract machine and its proofs: ReK0. -/
import Derived.Test.YtcgejflifhjajaaGreatDoorReT
import Derived.KernelRfl

set_option linter.unusedSimpArgs false
set_option linter.unusedVariables false
namespace Go.Am
theorem r0_0_0 : isT (rowRunN 0 0 0) = 1 := by kernel_rfl
theorem r1_0_0 : isT (rowRunN 1 0 0) = 1 := by kernel_rfl
theorem r2_0_0 : isT (rowRunN 2 0 0) = 1 := by kernel_rfl
theorem r3_0_0 : isT (rowRunN 3 0 0) = 1 := by kernel_rfl
theorem r4_0_0 : isT (rowRunN 4 0 0) = 1 := by kernel_rfl
theorem r5_0_0 : isT (rowRunN 5 0 0) = 1 := by kernel_rfl
theorem r6_0_0 : isT (rowRunN 6 0 0) = 1 := by kernel_rfl
theorem r7_0_0 : isT (rowRunN 7 0 0) = 1 := by kernel_rfl
theorem r8_0_0 : isT (rowRunN 8 0 0) = 1 := by kernel_rfl
theorem r9_0_0 : isT (rowRunN 9 0 0) = 1 := by kernel_rfl
theorem r_0_0 : ∀ n, n < 10 → isT (rowRunN n 0 0) = 1 := lt10 (fun n => isT (rowRunN n 0 0) = 1) r0_0_0 r1_0_0 r2_0_0 r3_0_0 r4_0_0 r5_0_0 r6_0_0 r7_0_0 r8_0_0 r9_0_0
theorem r0_0_1 : isT (rowRunN 0 0 1) = 1 := by kernel_rfl
theorem r1_0_1 : isT (rowRunN 1 0 1) = 1 := by kernel_rfl
theorem r2_0_1 : isT (rowRunN 2 0 1) = 1 := by kernel_rfl
theorem r3_0_1 : isT (rowRunN 3 0 1) = 1 := by kernel_rfl
theorem r4_0_1 : isT (rowRunN 4 0 1) = 1 := by kernel_rfl
theorem r5_0_1 : isT (rowRunN 5 0 1) = 1 := by kernel_rfl
theorem r6_0_1 : isT (rowRunN 6 0 1) = 1 := by kernel_rfl
theorem r7_0_1 : isT (rowRunN 7 0 1) = 1 := by kernel_rfl
theorem r8_0_1 : isT (rowRunN 8 0 1) = 1 := by kernel_rfl
theorem r9_0_1 : isT (rowRunN 9 0 1) = 1 := by kernel_rfl
theorem r_0_1 : ∀ n, n < 10 → isT (rowRunN n 0 1) = 1 := lt10 (fun n => isT (rowRunN n 0 1) = 1) r0_0_1 r1_0_1 r2_0_1 r3_0_1 r4_0_1 r5_0_1 r6_0_1 r7_0_1 r8_0_1 r9_0_1
end Go.Am
