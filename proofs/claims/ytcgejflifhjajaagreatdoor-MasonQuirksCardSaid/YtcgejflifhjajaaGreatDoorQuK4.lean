/- Parts of an abstract machine and its proofs: QuK4. -/
import Derived.Test.YtcgejflifhjajaaGreatDoorQuT
import Derived.KernelRfl

set_option linter.unusedSimpArgs false
set_option linter.unusedVariables false
namespace Go.Am
theorem r0_1_false : isT (rowRunO 0 (wG 1) false) = 1 := by kernel_rfl
theorem r1_1_false : isT (rowRunO 1 (wG 1) false) = 1 := by kernel_rfl
theorem r2_1_false : isT (rowRunO 2 (wG 1) false) = 1 := by kernel_rfl
theorem r3_1_false : isT (rowRunO 3 (wG 1) false) = 1 := by kernel_rfl
theorem r4_1_false : isT (rowRunO 4 (wG 1) false) = 1 := by kernel_rfl
theorem r5_1_false : isT (rowRunO 5 (wG 1) false) = 1 := by kernel_rfl
theorem r6_1_false : isT (rowRunO 6 (wG 1) false) = 1 := by kernel_rfl
theorem r7_1_false : isT (rowRunO 7 (wG 1) false) = 1 := by kernel_rfl
theorem r8_1_false : isT (rowRunO 8 (wG 1) false) = 1 := by kernel_rfl
theorem r9_1_false : isT (rowRunO 9 (wG 1) false) = 1 := by kernel_rfl
theorem r_1_false : ∀ n, n < 10 → isT (rowRunO n (wG 1) false) = 1 := lt10 (fun n => isT (rowRunO n (wG 1) false) = 1) r0_1_false r1_1_false r2_1_false r3_1_false r4_1_false r5_1_false r6_1_false r7_1_false r8_1_false r9_1_false
end Go.Am
