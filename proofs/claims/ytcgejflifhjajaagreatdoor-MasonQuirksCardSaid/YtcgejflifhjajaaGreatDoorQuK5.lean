/- Parts of an abstract machine and its proofs: QuK5. -/
import Derived.Test.YtcgejflifhjajaaGreatDoorQuT
import Derived.KernelRfl

set_option linter.unusedSimpArgs false
set_option linter.unusedVariables false
namespace Go.Am
theorem r0_1_true : isT (rowRunO 0 (wG 1) true) = 1 := by kernel_rfl
theorem r1_1_true : isT (rowRunO 1 (wG 1) true) = 1 := by kernel_rfl
theorem r2_1_true : isT (rowRunO 2 (wG 1) true) = 1 := by kernel_rfl
theorem r3_1_true : isT (rowRunO 3 (wG 1) true) = 1 := by kernel_rfl
theorem r4_1_true : isT (rowRunO 4 (wG 1) true) = 1 := by kernel_rfl
theorem r5_1_true : isT (rowRunO 5 (wG 1) true) = 1 := by kernel_rfl
theorem r6_1_true : isT (rowRunO 6 (wG 1) true) = 1 := by kernel_rfl
theorem r7_1_true : isT (rowRunO 7 (wG 1) true) = 1 := by kernel_rfl
theorem r8_1_true : isT (rowRunO 8 (wG 1) true) = 1 := by kernel_rfl
theorem r9_1_true : isT (rowRunO 9 (wG 1) true) = 1 := by kernel_rfl
theorem r_1_true : ∀ n, n < 10 → isT (rowRunO n (wG 1) true) = 1 := lt10 (fun n => isT (rowRunO n (wG 1) true) = 1) r0_1_true r1_1_true r2_1_true r3_1_true r4_1_true r5_1_true r6_1_true r7_1_true r8_1_true r9_1_true
end Go.Am
