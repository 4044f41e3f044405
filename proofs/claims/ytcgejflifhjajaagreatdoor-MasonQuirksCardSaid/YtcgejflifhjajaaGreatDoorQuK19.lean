/- Parts of an abstract machine and its proofs: QuK19. -/
import Derived.Test.YtcgejflifhjajaaGreatDoorQuT
import Derived.KernelRfl

set_option linter.unusedSimpArgs false
set_option linter.unusedVariables false
namespace Go.Am
theorem r0_8_true : isT (rowRunO 0 (wG 8) true) = 1 := by kernel_rfl
theorem r1_8_true : isT (rowRunO 1 (wG 8) true) = 1 := by kernel_rfl
theorem r2_8_true : isT (rowRunO 2 (wG 8) true) = 1 := by kernel_rfl
theorem r3_8_true : isT (rowRunO 3 (wG 8) true) = 1 := by kernel_rfl
theorem r4_8_true : isT (rowRunO 4 (wG 8) true) = 1 := by kernel_rfl
theorem r5_8_true : isT (rowRunO 5 (wG 8) true) = 1 := by kernel_rfl
theorem r6_8_true : isT (rowRunO 6 (wG 8) true) = 1 := by kernel_rfl
theorem r7_8_true : isT (rowRunO 7 (wG 8) true) = 1 := by kernel_rfl
theorem r8_8_true : isT (rowRunO 8 (wG 8) true) = 1 := by kernel_rfl
theorem r9_8_true : isT (rowRunO 9 (wG 8) true) = 1 := by kernel_rfl
theorem r_8_true : ∀ n, n < 10 → isT (rowRunO n (wG 8) true) = 1 := lt10 (fun n => isT (rowRunO n (wG 8) true) = 1) r0_8_true r1_8_true r2_8_true r3_8_true r4_8_true r5_8_true r6_8_true r7_8_true r8_8_true r9_8_true
end Go.Am
