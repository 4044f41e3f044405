/- Parts of an abstract machine and its proofs: ReK7. -/
import Derived.Test.YtcgejflifhjajaaGreatDoorReT
import Derived.KernelRfl

set_option linter.unusedSimpArgs false
set_option linter.unusedVariables false
namespace Go.Am
theorem r0_2_4 : isT (rowRunN 0 2 4) = 1 := by kernel_rfl
theorem r1_2_4 : isT (rowRunN 1 2 4) = 1 := by kernel_rfl
theorem r2_2_4 : isT (rowRunN 2 2 4) = 1 := by kernel_rfl
theorem r3_2_4 : isT (rowRunN 3 2 4) = 1 := by kernel_rfl
theorem r4_2_4 : isT (rowRunN 4 2 4) = 1 := by kernel_rfl
theorem r5_2_4 : isT (rowRunN 5 2 4) = 1 := by kernel_rfl
theorem r6_2_4 : isT (rowRunN 6 2 4) = 1 := by kernel_rfl
theorem r7_2_4 : isT (rowRunN 7 2 4) = 1 := by kernel_rfl
theorem r8_2_4 : isT (rowRunN 8 2 4) = 1 := by kernel_rfl
theorem r9_2_4 : isT (rowRunN 9 2 4) = 1 := by kernel_rfl
theorem r_2_4 : ∀ n, n < 10 → isT (rowRunN n 2 4) = 1 := lt10 (fun n => isT (rowRunN n 2 4) = 1) r0_2_4 r1_2_4 r2_2_4 r3_2_4 r4_2_4 r5_2_4 r6_2_4 r7_2_4 r8_2_4 r9_2_4
theorem r0_3_0 : isT (rowRunN 0 3 0) = 1 := by kernel_rfl
theorem r1_3_0 : isT (rowRunN 1 3 0) = 1 := by kernel_rfl
theorem r2_3_0 : isT (rowRunN 2 3 0) = 1 := by kernel_rfl
theorem r3_3_0 : isT (rowRunN 3 3 0) = 1 := by kernel_rfl
theorem r4_3_0 : isT (rowRunN 4 3 0) = 1 := by kernel_rfl
theorem r5_3_0 : isT (rowRunN 5 3 0) = 1 := by kernel_rfl
theorem r6_3_0 : isT (rowRunN 6 3 0) = 1 := by kernel_rfl
theorem r7_3_0 : isT (rowRunN 7 3 0) = 1 := by kernel_rfl
theorem r8_3_0 : isT (rowRunN 8 3 0) = 1 := by kernel_rfl
theorem r9_3_0 : isT (rowRunN 9 3 0) = 1 := by kernel_rfl
theorem r_3_0 : ∀ n, n < 10 → isT (rowRunN n 3 0) = 1 := lt10 (fun n => isT (rowRunN n 3 0) = 1) r0_3_0 r1_3_0 r2_3_0 r3_3_0 r4_3_0 r5_3_0 r6_3_0 r7_3_0 r8_3_0 r9_3_0
end Go.Am
