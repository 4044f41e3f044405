/- Parts of an abstract machine and its proofs: ReK1. -/
import Derived.Test.YtcgejflifhjajaaGreatDoorReT
import Derived.KernelRfl

set_option linter.unusedSimpArgs false
set_option linter.unusedVariables false
namespace Go.Am
theorem r0_0_2 : isT (rowRunN 0 0 2) = 1 := by kernel_rfl
theorem r1_0_2 : isT (rowRunN 1 0 2) = 1 := by kernel_rfl
theorem r2_0_2 : isT (rowRunN 2 0 2) = 1 := by kernel_rfl
theorem r3_0_2 : isT (rowRunN 3 0 2) = 1 := by kernel_rfl
theorem r4_0_2 : isT (rowRunN 4 0 2) = 1 := by kernel_rfl
theorem r5_0_2 : isT (rowRunN 5 0 2) = 1 := by kernel_rfl
theorem r6_0_2 : isT (rowRunN 6 0 2) = 1 := by kernel_rfl
theorem r7_0_2 : isT (rowRunN 7 0 2) = 1 := by kernel_rfl
theorem r8_0_2 : isT (rowRunN 8 0 2) = 1 := by kernel_rfl
theorem r9_0_2 : isT (rowRunN 9 0 2) = 1 := by kernel_rfl
theorem r_0_2 : ∀ n, n < 10 → isT (rowRunN n 0 2) = 1 := lt10 (fun n => isT (rowRunN n 0 2) = 1) r0_0_2 r1_0_2 r2_0_2 r3_0_2 r4_0_2 r5_0_2 r6_0_2 r7_0_2 r8_0_2 r9_0_2
theorem r0_0_3 : isT (rowRunN 0 0 3) = 1 := by kernel_rfl
theorem r1_0_3 : isT (rowRunN 1 0 3) = 1 := by kernel_rfl
theorem r2_0_3 : isT (rowRunN 2 0 3) = 1 := by kernel_rfl
theorem r3_0_3 : isT (rowRunN 3 0 3) = 1 := by kernel_rfl
theorem r4_0_3 : isT (rowRunN 4 0 3) = 1 := by kernel_rfl
theorem r5_0_3 : isT (rowRunN 5 0 3) = 1 := by kernel_rfl
theorem r6_0_3 : isT (rowRunN 6 0 3) = 1 := by kernel_rfl
theorem r7_0_3 : isT (rowRunN 7 0 3) = 1 := by kernel_rfl
theorem r8_0_3 : isT (rowRunN 8 0 3) = 1 := by kernel_rfl
theorem r9_0_3 : isT (rowRunN 9 0 3) = 1 := by kernel_rfl
theorem r_0_3 : ∀ n, n < 10 → isT (rowRunN n 0 3) = 1 := lt10 (fun n => isT (rowRunN n 0 3) = 1) r0_0_3 r1_0_3 r2_0_3 r3_0_3 r4_0_3 r5_0_3 r6_0_3 r7_0_3 r8_0_3 r9_0_3
end Go.Am
