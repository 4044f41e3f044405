/- Parts of an abstract machine and its proofs: ReK2. -/
import Derived.Test.YtcgejflifhjajaaGreatDoorReT
import Derived.KernelRfl

set_option linter.unusedSimpArgs false
set_option linter.unusedVariables false
namespace Go.Am
theorem r0_0_4 : isT (rowRunN 0 0 4) = 1 := by kernel_rfl
theorem r1_0_4 : isT (rowRunN 1 0 4) = 1 := by kernel_rfl
theorem r2_0_4 : isT (rowRunN 2 0 4) = 1 := by kernel_rfl
theorem r3_0_4 : isT (rowRunN 3 0 4) = 1 := by kernel_rfl
theorem r4_0_4 : isT (rowRunN 4 0 4) = 1 := by kernel_rfl
theorem r5_0_4 : isT (rowRunN 5 0 4) = 1 := by kernel_rfl
theorem r6_0_4 : isT (rowRunN 6 0 4) = 1 := by kernel_rfl
theorem r7_0_4 : isT (rowRunN 7 0 4) = 1 := by kernel_rfl
theorem r8_0_4 : isT (rowRunN 8 0 4) = 1 := by kernel_rfl
theorem r9_0_4 : isT (rowRunN 9 0 4) = 1 := by kernel_rfl
theorem r_0_4 : ∀ n, n < 10 → isT (rowRunN n 0 4) = 1 := lt10 (fun n => isT (rowRunN n 0 4) = 1) r0_0_4 r1_0_4 r2_0_4 r3_0_4 r4_0_4 r5_0_4 r6_0_4 r7_0_4 r8_0_4 r9_0_4
theorem r0_1_0 : isT (rowRunN 0 1 0) = 1 := by kernel_rfl
theorem r1_1_0 : isT (rowRunN 1 1 0) = 1 := by kernel_rfl
theorem r2_1_0 : isT (rowRunN 2 1 0) = 1 := by kernel_rfl
theorem r3_1_0 : isT (rowRunN 3 1 0) = 1 := by kernel_rfl
theorem r4_1_0 : isT (rowRunN 4 1 0) = 1 := by kernel_rfl
theorem r5_1_0 : isT (rowRunN 5 1 0) = 1 := by kernel_rfl
theorem r6_1_0 : isT (rowRunN 6 1 0) = 1 := by kernel_rfl
theorem r7_1_0 : isT (rowRunN 7 1 0) = 1 := by kernel_rfl
theorem r8_1_0 : isT (rowRunN 8 1 0) = 1 := by kernel_rfl
theorem r9_1_0 : isT (rowRunN 9 1 0) = 1 := by kernel_rfl
theorem r_1_0 : ∀ n, n < 10 → isT (rowRunN n 1 0) = 1 := lt10 (fun n => isT (rowRunN n 1 0) = 1) r0_1_0 r1_1_0 r2_1_0 r3_1_0 r4_1_0 r5_1_0 r6_1_0 r7_1_0 r8_1_0 r9_1_0
end Go.Am
