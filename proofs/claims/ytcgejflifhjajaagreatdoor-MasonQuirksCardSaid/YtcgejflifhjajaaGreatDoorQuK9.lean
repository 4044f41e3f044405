/- Parts of an abstract machine and its proofs: QuK9. -/
import Derived.Test.YtcgejflifhjajaaGreatDoorQuT
import Derived.KernelRfl

set_option linter.unusedSimpArgs false
set_option linter.unusedVariables false
namespace Go.Am
theorem r0_3_true : isT (rowRunO 0 (wG 3) true) = 1 := by kernel_rfl
theorem r1_3_true : isT (rowRunO 1 (wG 3) true) = 1 := by kernel_rfl
theorem r2_3_true : isT (rowRunO 2 (wG 3) true) = 1 := by kernel_rfl
theorem r3_3_true : isT (rowRunO 3 (wG 3) true) = 1 := by kernel_rfl
theorem r4_3_true : isT (rowRunO 4 (wG 3) true) = 1 := by kernel_rfl
theorem r5_3_true : isT (rowRunO 5 (wG 3) true) = 1 := by kernel_rfl
theorem r6_3_true : isT (rowRunO 6 (wG 3) true) = 1 := by kernel_rfl
theorem r7_3_true : isT (rowRunO 7 (wG 3) true) = 1 := by kernel_rfl
theorem r8_3_true : isT (rowRunO 8 (wG 3) true) = 1 := by kernel_rfl
theorem r9_3_true : isT (rowRunO 9 (wG 3) true) = 1 := by kernel_rfl
theorem r_3_true : ∀ n, n < 10 → isT (rowRunO n (wG 3) true) = 1 := lt10 (fun n => isT (rowRunO n (wG 3) true) = 1) r0_3_true r1_3_true r2_3_true r3_3_true r4_3_true r5_3_true r6_3_true r7_3_true r8_3_true r9_3_true
end Go.Am
