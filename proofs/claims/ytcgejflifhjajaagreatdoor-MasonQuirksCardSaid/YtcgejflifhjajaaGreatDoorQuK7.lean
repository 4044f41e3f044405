/- Parts of an abstract machine and its proofs: QuK7. -/
import Derived.Test.YtcgejflifhjajaaGreatDoorQuT
import Derived.KernelRfl

set_option linter.unusedSimpArgs false
set_option linter.unusedVariables false
namespace Go.Am
theorem r0_2_true : isT (rowRunO 0 (wG 2) true) = 1 := by kernel_rfl
theorem r1_2_true : isT (rowRunO 1 (wG 2) true) = 1 := by kernel_rfl
theorem r2_2_true : isT (rowRunO 2 (wG 2) true) = 1 := by kernel_rfl
theorem r3_2_true : isT (rowRunO 3 (wG 2) true) = 1 := by kernel_rfl
theorem r4_2_true : isT (rowRunO 4 (wG 2) true) = 1 := by kernel_rfl
theorem r5_2_true : isT (rowRunO 5 (wG 2) true) = 1 := by kernel_rfl
theorem r6_2_true : isT (rowRunO 6 (wG 2) true) = 1 := by kernel_rfl
theorem r7_2_true : isT (rowRunO 7 (wG 2) true) = 1 := by kernel_rfl
theorem r8_2_true : isT (rowRunO 8 (wG 2) true) = 1 := by kernel_rfl
theorem r9_2_true : isT (rowRunO 9 (wG 2) true) = 1 := by kernel_rfl
theorem r_2_true : ∀ n, n < 10 → isT (rowRunO n (wG 2) true) = 1 := lt10 (fun n => isT (rowRunO n (wG 2) true) = 1) r0_2_true r1_2_true r2_2_true r3_2_true r4_2_true r5_2_true r6_2_true r7_2_true r8_2_true r9_2_true
end Go.Am
