/- Parts of an abstract machine and its proofs: ReK4. -/
import Derived.Test.YtcgejflifhjajaaGreatDoorReT
import Derived.KernelRfl

set_option linter.unusedSimpArgs false
set_option linter.unusedVariables false
namespace Go.Am
theorem r0_1_3 : isT (rowRunN 0 1 3) = 1 := by kernel_rfl
theorem r1_1_3 : isT (rowRunN 1 1 3) = 1 := by kernel_rfl
theorem r2_1_3 : isT (rowRunN 2 1 3) = 1 := by kernel_rfl
theorem r3_1_3 : isT (rowRunN 3 1 3) = 1 := by kernel_rfl
theorem r4_1_3 : isT (rowRunN 4 1 3) = 1 := by kernel_rfl
theorem r5_1_3 : isT (rowRunN 5 1 3) = 1 := by kernel_rfl
theorem r6_1_3 : isT (rowRunN 6 1 3) = 1 := by kernel_rfl
theorem r7_1_3 : isT (rowRunN 7 1 3) = 1 := by kernel_rfl
theorem r8_1_3 : isT (rowRunN 8 1 3) = 1 := by kernel_rfl
theorem r9_1_3 : isT (rowRunN 9 1 3) = 1 := by kernel_rfl
theorem r_1_3 : ∀ n, n < 10 → isT (rowRunN n 1 3) = 1 := lt10 (fun n => isT (rowRunN n 1 3) = 1) r0_1_3 r1_1_3 r2_1_3 r3_1_3 r4_1_3 r5_1_3 r6_1_3 r7_1_3 r8_1_3 r9_1_3
theorem r0_1_4 : isT (rowRunN 0 1 4) = 1 := by kernel_rfl
theorem r1_1_4 : isT (rowRunN 1 1 4) = 1 := by kernel_rfl
theorem r2_1_4 : isT (rowRunN 2 1 4) = 1 := by kernel_rfl
theorem r3_1_4 : isT (rowRunN 3 1 4) = 1 := by kernel_rfl
theorem r4_1_4 : isT (rowRunN 4 1 4) = 1 := by kernel_rfl
theorem r5_1_4 : isT (rowRunN 5 1 4) = 1 := by kernel_rfl
theorem r6_1_4 : isT (rowRunN 6 1 4) = 1 := by kernel_rfl
theorem r7_1_4 : isT (rowRunN 7 1 4) = 1 := by kernel_rfl
theorem r8_1_4 : isT (rowRunN 8 1 4) = 1 := by kernel_rfl
theorem r9_1_4 : isT (rowRunN 9 1 4) = 1 := by kernel_rfl
theorem r_1_4 : ∀ n, n < 10 → isT (rowRunN n 1 4) = 1 := lt10 (fun n => isT (rowRunN n 1 4) = 1) r0_1_4 r1_1_4 r2_1_4 r3_1_4 r4_1_4 r5_1_4 r6_1_4 r7_1_4 r8_1_4 r9_1_4
end Go.Am
