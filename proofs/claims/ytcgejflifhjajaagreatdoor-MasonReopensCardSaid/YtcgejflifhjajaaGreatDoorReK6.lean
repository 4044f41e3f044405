/- Parts of an abstract machine and its proofs: ReK6. -/
import Derived.Test.YtcgejflifhjajaaGreatDoorReT
import Derived.KernelRfl

set_option linter.unusedSimpArgs false
set_option linter.unusedVariables false
namespace Go.Am
theorem r0_2_2 : isT (rowRunN 0 2 2) = 1 := by kernel_rfl
theorem r1_2_2 : isT (rowRunN 1 2 2) = 1 := by kernel_rfl
theorem r2_2_2 : isT (rowRunN 2 2 2) = 1 := by kernel_rfl
theorem r3_2_2 : isT (rowRunN 3 2 2) = 1 := by kernel_rfl
theorem r4_2_2 : isT (rowRunN 4 2 2) = 1 := by kernel_rfl
theorem r5_2_2 : isT (rowRunN 5 2 2) = 1 := by kernel_rfl
theorem r6_2_2 : isT (rowRunN 6 2 2) = 1 := by kernel_rfl
theorem r7_2_2 : isT (rowRunN 7 2 2) = 1 := by kernel_rfl
theorem r8_2_2 : isT (rowRunN 8 2 2) = 1 := by kernel_rfl
theorem r9_2_2 : isT (rowRunN 9 2 2) = 1 := by kernel_rfl
theorem r_2_2 : ∀ n, n < 10 → isT (rowRunN n 2 2) = 1 := lt10 (fun n => isT (rowRunN n 2 2) = 1) r0_2_2 r1_2_2 r2_2_2 r3_2_2 r4_2_2 r5_2_2 r6_2_2 r7_2_2 r8_2_2 r9_2_2
theorem r0_2_3 : isT (rowRunN 0 2 3) = 1 := by kernel_rfl
theorem r1_2_3 : isT (rowRunN 1 2 3) = 1 := by kernel_rfl
theorem r2_2_3 : isT (rowRunN 2 2 3) = 1 := by kernel_rfl
theorem r3_2_3 : isT (rowRunN 3 2 3) = 1 := by kernel_rfl
theorem r4_2_3 : isT (rowRunN 4 2 3) = 1 := by kernel_rfl
theorem r5_2_3 : isT (rowRunN 5 2 3) = 1 := by kernel_rfl
theorem r6_2_3 : isT (rowRunN 6 2 3) = 1 := by kernel_rfl
theorem r7_2_3 : isT (rowRunN 7 2 3) = 1 := by kernel_rfl
theorem r8_2_3 : isT (rowRunN 8 2 3) = 1 := by kernel_rfl
theorem r9_2_3 : isT (rowRunN 9 2 3) = 1 := by kernel_rfl
theorem r_2_3 : ∀ n, n < 10 → isT (rowRunN n 2 3) = 1 := lt10 (fun n => isT (rowRunN n 2 3) = 1) r0_2_3 r1_2_3 r2_2_3 r3_2_3 r4_2_3 r5_2_3 r6_2_3 r7_2_3 r8_2_3 r9_2_3
end Go.Am
