/- Parts of an abstract machine and its proofs: ReK3. -/
import Derived.Test.YtcgejflifhjajaaGreatDoorReT
import Derived.KernelRfl

set_option linter.unusedSimpArgs false
set_option linter.unusedVariables false
namespace Go.Am
theorem r0_1_1 : isT (rowRunN 0 1 1) = 1 := by kernel_rfl
theorem r1_1_1 : isT (rowRunN 1 1 1) = 1 := by kernel_rfl
theorem r2_1_1 : isT (rowRunN 2 1 1) = 1 := by kernel_rfl
theorem r3_1_1 : isT (rowRunN 3 1 1) = 1 := by kernel_rfl
theorem r4_1_1 : isT (rowRunN 4 1 1) = 1 := by kernel_rfl
theorem r5_1_1 : isT (rowRunN 5 1 1) = 1 := by kernel_rfl
theorem r6_1_1 : isT (rowRunN 6 1 1) = 1 := by kernel_rfl
theorem r7_1_1 : isT (rowRunN 7 1 1) = 1 := by kernel_rfl
theorem r8_1_1 : isT (rowRunN 8 1 1) = 1 := by kernel_rfl
theorem r9_1_1 : isT (rowRunN 9 1 1) = 1 := by kernel_rfl
theorem r_1_1 : ∀ n, n < 10 → isT (rowRunN n 1 1) = 1 := lt10 (fun n => isT (rowRunN n 1 1) = 1) r0_1_1 r1_1_1 r2_1_1 r3_1_1 r4_1_1 r5_1_1 r6_1_1 r7_1_1 r8_1_1 r9_1_1
theorem r0_1_2 : isT (rowRunN 0 1 2) = 1 := by kernel_rfl
theorem r1_1_2 : isT (rowRunN 1 1 2) = 1 := by kernel_rfl
theorem r2_1_2 : isT (rowRunN 2 1 2) = 1 := by kernel_rfl
theorem r3_1_2 : isT (rowRunN 3 1 2) = 1 := by kernel_rfl
theorem r4_1_2 : isT (rowRunN 4 1 2) = 1 := by kernel_rfl
theorem r5_1_2 : isT (rowRunN 5 1 2) = 1 := by kernel_rfl
theorem r6_1_2 : isT (rowRunN 6 1 2) = 1 := by kernel_rfl
theorem r7_1_2 : isT (rowRunN 7 1 2) = 1 := by kernel_rfl
theorem r8_1_2 : isT (rowRunN 8 1 2) = 1 := by kernel_rfl
theorem r9_1_2 : isT (rowRunN 9 1 2) = 1 := by kernel_rfl
theorem r_1_2 : ∀ n, n < 10 → isT (rowRunN n 1 2) = 1 := lt10 (fun n => isT (rowRunN n 1 2) = 1) r0_1_2 r1_1_2 r2_1_2 r3_1_2 r4_1_2 r5_1_2 r6_1_2 r7_1_2 r8_1_2 r9_1_2
end Go.Am
