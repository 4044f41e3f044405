/- Parts of an abstract machine and its proofs: ReK13. -/
import Derived.Test.YtcgejflifhjajaaGreatDoorReT
import Derived.KernelRfl

set_option linter.unusedSimpArgs false
set_option linter.unusedVariables false
namespace Go.Am
theorem r0_5_1 : isT (rowRunN 0 5 1) = 1 := by kernel_rfl
theorem r1_5_1 : isT (rowRunN 1 5 1) = 1 := by kernel_rfl
theorem r2_5_1 : isT (rowRunN 2 5 1) = 1 := by kernel_rfl
theorem r3_5_1 : isT (rowRunN 3 5 1) = 1 := by kernel_rfl
theorem r4_5_1 : isT (rowRunN 4 5 1) = 1 := by kernel_rfl
theorem r5_5_1 : isT (rowRunN 5 5 1) = 1 := by kernel_rfl
theorem r6_5_1 : isT (rowRunN 6 5 1) = 1 := by kernel_rfl
theorem r7_5_1 : isT (rowRunN 7 5 1) = 1 := by kernel_rfl
theorem r8_5_1 : isT (rowRunN 8 5 1) = 1 := by kernel_rfl
theorem r9_5_1 : isT (rowRunN 9 5 1) = 1 := by kernel_rfl
theorem r_5_1 : ∀ n, n < 10 → isT (rowRunN n 5 1) = 1 := lt10 (fun n => isT (rowRunN n 5 1) = 1) r0_5_1 r1_5_1 r2_5_1 r3_5_1 r4_5_1 r5_5_1 r6_5_1 r7_5_1 r8_5_1 r9_5_1
theorem r0_5_2 : isT (rowRunN 0 5 2) = 1 := by kernel_rfl
theorem r1_5_2 : isT (rowRunN 1 5 2) = 1 := by kernel_rfl
theorem r2_5_2 : isT (rowRunN 2 5 2) = 1 := by kernel_rfl
theorem r3_5_2 : isT (rowRunN 3 5 2) = 1 := by kernel_rfl
theorem r4_5_2 : isT (rowRunN 4 5 2) = 1 := by kernel_rfl
theorem r5_5_2 : isT (rowRunN 5 5 2) = 1 := by kernel_rfl
theorem r6_5_2 : isT (rowRunN 6 5 2) = 1 := by kernel_rfl
theorem r7_5_2 : isT (rowRunN 7 5 2) = 1 := by kernel_rfl
theorem r8_5_2 : isT (rowRunN 8 5 2) = 1 := by kernel_rfl
theorem r9_5_2 : isT (rowRunN 9 5 2) = 1 := by kernel_rfl
theorem r_5_2 : ∀ n, n < 10 → isT (rowRunN n 5 2) = 1 := lt10 (fun n => isT (rowRunN n 5 2) = 1) r0_5_2 r1_5_2 r2_5_2 r3_5_2 r4_5_2 r5_5_2 r6_5_2 r7_5_2 r8_5_2 r9_5_2
end Go.Am
