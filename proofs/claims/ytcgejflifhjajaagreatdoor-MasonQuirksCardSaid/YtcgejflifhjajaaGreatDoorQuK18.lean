/- Parts of an abstract machine and its proofs: QuK18. -/
import Derived.Test.YtcgejflifhjajaaGreatDoorQuT
import Derived.KernelRfl

set_option linter.unusedSimpArgs false
set_option linter.unusedVariables false
namespace Go.Am
theorem r0_8_false : isT (rowRunO 0 (wG 8) false) = 1 := by kernel_rfl
theorem r1_8_false : isT (rowRunO 1 (wG 8) false) = 1 := by kernel_rfl
theorem r2_8_false : isT (rowRunO 2 (wG 8) false) = 1 := by kernel_rfl
theorem r3_8_false : isT (rowRunO 3 (wG 8) false) = 1 := by kernel_rfl
theorem r4_8_false : isT (rowRunO 4 (wG 8) false) = 1 := by kernel_rfl
theorem r5_8_false : isT (rowRunO 5 (wG 8) false) = 1 := by kernel_rfl
theorem r6_8_false : isT (rowRunO 6 (wG 8) false) = 1 := by kernel_rfl
theorem r7_8_false : isT (rowRunO 7 (wG 8) false) = 1 := by kernel_rfl
theorem r8_8_false : isT (rowRunO 8 (wG 8) false) = 1 := by kernel_rfl
theorem r9_8_false : isT (rowRunO 9 (wG 8) false) = 1 := by kernel_rfl
theorem r_8_false : ∀ n, n < 10 → isT (rowRunO n (wG 8) false) = 1 := lt10 (fun n => isT (rowRunO n (wG 8) false) = 1) r0_8_false r1_8_false r2_8_false r3_8_false r4_8_false r5_8_false r6_8_false r7_8_false r8_8_false r9_8_false
end Go.Am
