/- Parts of an abstract machine and its proofs: ReK12. -/
import Derived.Test.YtcgejflifhjajaaGreatDoorReT
import Derived.KernelRfl

set_option linter.unusedSimpArgs false
set_option linter.unusedVariables false
namespace Go.Am
theorem r0_4_4 : isT (rowRunN 0 4 4) = 1 := by kernel_rfl
theorem r1_4_4 : isT (rowRunN 1 4 4) = 1 := by kernel_rfl
theorem r2_4_4 : isT (rowRunN 2 4 4) = 1 := by kernel_rfl
theorem r3_4_4 : isT (rowRunN 3 4 4) = 1 := by kernel_rfl
theorem r4_4_4 : isT (rowRunN 4 4 4) = 1 := by kernel_rfl
theorem r5_4_4 : isT (rowRunN 5 4 4) = 1 := by kernel_rfl
theorem r6_4_4 : isT (rowRunN 6 4 4) = 1 := by kernel_rfl
theorem r7_4_4 : isT (rowRunN 7 4 4) = 1 := by kernel_rfl
theorem r8_4_4 : isT (rowRunN 8 4 4) = 1 := by kernel_rfl
theorem r9_4_4 : isT (rowRunN 9 4 4) = 1 := by kernel_rfl
theorem r_4_4 : ∀ n, n < 10 → isT (rowRunN n 4 4) = 1 := lt10 (fun n => isT (rowRunN n 4 4) = 1) r0_4_4 r1_4_4 r2_4_4 r3_4_4 r4_4_4 r5_4_4 r6_4_4 r7_4_4 r8_4_4 r9_4_4
theorem r0_5_0 : isT (rowRunN 0 5 0) = 1 := by kernel_rfl
theorem r1_5_0 : isT (rowRunN 1 5 0) = 1 := by kernel_rfl
theorem r2_5_0 : isT (rowRunN 2 5 0) = 1 := by kernel_rfl
theorem r3_5_0 : isT (rowRunN 3 5 0) = 1 := by kernel_rfl
theorem r4_5_0 : isT (rowRunN 4 5 0) = 1 := by kernel_rfl
theorem r5_5_0 : isT (rowRunN 5 5 0) = 1 := by kernel_rfl
theorem r6_5_0 : isT (rowRunN 6 5 0) = 1 := by kernel_rfl
theorem r7_5_0 : isT (rowRunN 7 5 0) = 1 := by kernel_rfl
theorem r8_5_0 : isT (rowRunN 8 5 0) = 1 := by kernel_rfl
theorem r9_5_0 : isT (rowRunN 9 5 0) = 1 := by kernel_rfl
theorem r_5_0 : ∀ n, n < 10 → isT (rowRunN n 5 0) = 1 := lt10 (fun n => isT (rowRunN n 5 0) = 1) r0_5_0 r1_5_0 r2_5_0 r3_5_0 r4_5_0 r5_5_0 r6_5_0 r7_5_0 r8_5_0 r9_5_0
end Go.Am
