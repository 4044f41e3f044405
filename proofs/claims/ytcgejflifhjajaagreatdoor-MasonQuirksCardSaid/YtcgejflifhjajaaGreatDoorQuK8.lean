/- Parts of an abstract machine and its proofs: QuK8. -/
import Derived.Test.YtcgejflifhjajaaGreatDoorQuT
import Derived.KernelRfl

set_option linter.unusedSimpArgs false
set_option linter.unusedVariables false
namespace Go.Am
theorem r0_3_false : isT (rowRunO 0 (wG 3) false) = 1 := by kernel_rfl
theorem r1_3_false : isT (rowRunO 1 (wG 3) false) = 1 := by kernel_rfl
theorem r2_3_false : isT (rowRunO 2 (wG 3) false) = 1 := by kernel_rfl
theorem r3_3_false : isT (rowRunO 3 (wG 3) false) = 1 := by kernel_rfl
theorem r4_3_false : isT (rowRunO 4 (wG 3) false) = 1 := by kernel_rfl
theorem r5_3_false : isT (rowRunO 5 (wG 3) false) = 1 := by kernel_rfl
theorem r6_3_false : isT (rowRunO 6 (wG 3) false) = 1 := by kernel_rfl
theorem r7_3_false : isT (rowRunO 7 (wG 3) false) = 1 := by kernel_rfl
theorem r8_3_false : isT (rowRunO 8 (wG 3) false) = 1 := by kernel_rfl
theorem r9_3_false : isT (rowRunO 9 (wG 3) false) = 1 := by kernel_rfl
theorem r_3_false : ∀ n, n < 10 → isT (rowRunO n (wG 3) false) = 1 := lt10 (fun n => isT (rowRunO n (wG 3) false) = 1) r0_3_false r1_3_false r2_3_false r3_3_false r4_3_false r5_3_false r6_3_false r7_3_false r8_3_false r9_3_false
end Go.Am
