/- Parts of an abstract machine and its proofs: ReK14. -/
import Derived.Test.YtcgejflifhjajaaGreatDoorReT
import Derived.KernelRfl

set_option linter.unusedSimpArgs false
set_option linter.unusedVariables false
namespace Go.Am
theorem r0_5_3 : isT (rowRunN 0 5 3) = 1 := by kernel_rfl
theorem r1_5_3 : isT (rowRunN 1 5 3) = 1 := by kernel_rfl
theorem r2_5_3 : isT (rowRunN 2 5 3) = 1 := by kernel_rfl
theorem r3_5_3 : isT (rowRunN 3 5 3) = 1 := by kernel_rfl
theorem r4_5_3 : isT (rowRunN 4 5 3) = 1 := by kernel_rfl
theorem r5_5_3 : isT (rowRunN 5 5 3) = 1 := by kernel_rfl
theorem r6_5_3 : isT (rowRunN 6 5 3) = 1 := by kernel_rfl
theorem r7_5_3 : isT (rowRunN 7 5 3) = 1 := by kernel_rfl
theorem r8_5_3 : isT (rowRunN 8 5 3) = 1 := by kernel_rfl
theorem r9_5_3 : isT (rowRunN 9 5 3) = 1 := by kernel_rfl
theorem r_5_3 : ∀ n, n < 10 → isT (rowRunN n 5 3) = 1 := lt10 (fun n => isT (rowRunN n 5 3) = 1) r0_5_3 r1_5_3 r2_5_3 r3_5_3 r4_5_3 r5_5_3 r6_5_3 r7_5_3 r8_5_3 r9_5_3
theorem r0_5_4 : isT (rowRunN 0 5 4) = 1 := by kernel_rfl
theorem r1_5_4 : isT (rowRunN 1 5 4) = 1 := by kernel_rfl
theorem r2_5_4 : isT (rowRunN 2 5 4) = 1 := by kernel_rfl
theorem r3_5_4 : isT (rowRunN 3 5 4) = 1 := by kernel_rfl
theorem r4_5_4 : isT (rowRunN 4 5 4) = 1 := by kernel_rfl
theorem r5_5_4 : isT (rowRunN 5 5 4) = 1 := by kernel_rfl
theorem r6_5_4 : isT (rowRunN 6 5 4) = 1 := by kernel_rfl
theorem r7_5_4 : isT (rowRunN 7 5 4) = 1 := by kernel_rfl
theorem r8_5_4 : isT (rowRunN 8 5 4) = 1 := by kernel_rfl
theorem r9_5_4 : isT (rowRunN 9 5 4) = 1 := by kernel_rfl
theorem r_5_4 : ∀ n, n < 10 → isT (rowRunN n 5 4) = 1 := lt10 (fun n => isT (rowRunN n 5 4) = 1) r0_5_4 r1_5_4 r2_5_4 r3_5_4 r4_5_4 r5_5_4 r6_5_4 r7_5_4 r8_5_4 r9_5_4
end Go.Am
