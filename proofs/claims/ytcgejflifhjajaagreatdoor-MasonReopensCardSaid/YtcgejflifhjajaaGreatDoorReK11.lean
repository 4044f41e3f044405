/- Parts of an abstract machine and its proofs: ReK11. -/
import Derived.Test.YtcgejflifhjajaaGreatDoorReT
import Derived.KernelRfl

set_option linter.unusedSimpArgs false
set_option linter.unusedVariables false
namespace Go.Am
theorem r0_4_2 : isT (rowRunN 0 4 2) = 1 := by kernel_rfl
theorem r1_4_2 : isT (rowRunN 1 4 2) = 1 := by kernel_rfl
theorem r2_4_2 : isT (rowRunN 2 4 2) = 1 := by kernel_rfl
theorem r3_4_2 : isT (rowRunN 3 4 2) = 1 := by kernel_rfl
theorem r4_4_2 : isT (rowRunN 4 4 2) = 1 := by kernel_rfl
theorem r5_4_2 : isT (rowRunN 5 4 2) = 1 := by kernel_rfl
theorem r6_4_2 : isT (rowRunN 6 4 2) = 1 := by kernel_rfl
theorem r7_4_2 : isT (rowRunN 7 4 2) = 1 := by kernel_rfl
theorem r8_4_2 : isT (rowRunN 8 4 2) = 1 := by kernel_rfl
theorem r9_4_2 : isT (rowRunN 9 4 2) = 1 := by kernel_rfl
theorem r_4_2 : ∀ n, n < 10 → isT (rowRunN n 4 2) = 1 := lt10 (fun n => isT (rowRunN n 4 2) = 1) r0_4_2 r1_4_2 r2_4_2 r3_4_2 r4_4_2 r5_4_2 r6_4_2 r7_4_2 r8_4_2 r9_4_2
theorem r0_4_3 : isT (rowRunN 0 4 3) = 1 := by kernel_rfl
theorem r1_4_3 : isT (rowRunN 1 4 3) = 1 := by kernel_rfl
theorem r2_4_3 : isT (rowRunN 2 4 3) = 1 := by kernel_rfl
theorem r3_4_3 : isT (rowRunN 3 4 3) = 1 := by kernel_rfl
theorem r4_4_3 : isT (rowRunN 4 4 3) = 1 := by kernel_rfl
theorem r5_4_3 : isT (rowRunN 5 4 3) = 1 := by kernel_rfl
theorem r6_4_3 : isT (rowRunN 6 4 3) = 1 := by kernel_rfl
theorem r7_4_3 : isT (rowRunN 7 4 3) = 1 := by kernel_rfl
theorem r8_4_3 : isT (rowRunN 8 4 3) = 1 := by kernel_rfl
theorem r9_4_3 : isT (rowRunN 9 4 3) = 1 := by kernel_rfl
theorem r_4_3 : ∀ n, n < 10 → isT (rowRunN n 4 3) = 1 := lt10 (fun n => isT (rowRunN n 4 3) = 1) r0_4_3 r1_4_3 r2_4_3 r3_4_3 r4_4_3 r5_4_3 r6_4_3 r7_4_3 r8_4_3 r9_4_3
end Go.Am
