/- Parts of an abstract machine and its proofs: ReK9. -/
import Derived.Test.YtcgejflifhjajaaGreatDoorReT
import Derived.KernelRfl

set_option linter.unusedSimpArgs false
set_option linter.unusedVariables false
namespace Go.Am
theorem r0_3_3 : isT (rowRunN 0 3 3) = 1 := by kernel_rfl
theorem r1_3_3 : isT (rowRunN 1 3 3) = 1 := by kernel_rfl
theorem r2_3_3 : isT (rowRunN 2 3 3) = 1 := by kernel_rfl
theorem r3_3_3 : isT (rowRunN 3 3 3) = 1 := by kernel_rfl
theorem r4_3_3 : isT (rowRunN 4 3 3) = 1 := by kernel_rfl
theorem r5_3_3 : isT (rowRunN 5 3 3) = 1 := by kernel_rfl
theorem r6_3_3 : isT (rowRunN 6 3 3) = 1 := by kernel_rfl
theorem r7_3_3 : isT (rowRunN 7 3 3) = 1 := by kernel_rfl
theorem r8_3_3 : isT (rowRunN 8 3 3) = 1 := by kernel_rfl
theorem r9_3_3 : isT (rowRunN 9 3 3) = 1 := by kernel_rfl
theorem r_3_3 : ∀ n, n < 10 → isT (rowRunN n 3 3) = 1 := lt10 (fun n => isT (rowRunN n 3 3) = 1) r0_3_3 r1_3_3 r2_3_3 r3_3_3 r4_3_3 r5_3_3 r6_3_3 r7_3_3 r8_3_3 r9_3_3
theorem r0_3_4 : isT (rowRunN 0 3 4) = 1 := by kernel_rfl
theorem r1_3_4 : isT (rowRunN 1 3 4) = 1 := by kernel_rfl
theorem r2_3_4 : isT (rowRunN 2 3 4) = 1 := by kernel_rfl
theorem r3_3_4 : isT (rowRunN 3 3 4) = 1 := by kernel_rfl
theorem r4_3_4 : isT (rowRunN 4 3 4) = 1 := by kernel_rfl
theorem r5_3_4 : isT (rowRunN 5 3 4) = 1 := by kernel_rfl
theorem r6_3_4 : isT (rowRunN 6 3 4) = 1 := by kernel_rfl
theorem r7_3_4 : isT (rowRunN 7 3 4) = 1 := by kernel_rfl
theorem r8_3_4 : isT (rowRunN 8 3 4) = 1 := by kernel_rfl
theorem r9_3_4 : isT (rowRunN 9 3 4) = 1 := by kernel_rfl
theorem r_3_4 : ∀ n, n < 10 → isT (rowRunN n 3 4) = 1 := lt10 (fun n => isT (rowRunN n 3 4) = 1) r0_3_4 r1_3_4 r2_3_4 r3_3_4 r4_3_4 r5_3_4 r6_3_4 r7_3_4 r8_3_4 r9_3_4
end Go.Am
