/- Parts of an abstract machine and its proofs: QuK16. -/
import Derived.Test.YtcgejflifhjajaaGreatDoorQuT
import Derived.KernelRfl

set_option linter.unusedSimpArgs false
set_option linter.unusedVariables false
namespace Go.Am
theorem r0_7_false : isT (rowRunO 0 (wG 7) false) = 1 := by kernel_rfl
theorem r1_7_false : isT (rowRunO 1 (wG 7) false) = 1 := by kernel_rfl
theorem r2_7_false : isT (rowRunO 2 (wG 7) false) = 1 := by kernel_rfl
theorem r3_7_false : isT (rowRunO 3 (wG 7) false) = 1 := by kernel_rfl
theorem r4_7_false : isT (rowRunO 4 (wG 7) false) = 1 := by kernel_rfl
theorem r5_7_false : isT (rowRunO 5 (wG 7) false) = 1 := by kernel_rfl
theorem r6_7_false : isT (rowRunO 6 (wG 7) false) = 1 := by kernel_rfl
theorem r7_7_false : isT (rowRunO 7 (wG 7) false) = 1 := by kernel_rfl
theorem r8_7_false : isT (rowRunO 8 (wG 7) false) = 1 := by kernel_rfl
theorem r9_7_false : isT (rowRunO 9 (wG 7) false) = 1 := by kernel_rfl
theorem r_7_false : ∀ n, n < 10 → isT (rowRunO n (wG 7) false) = 1 := lt10 (fun n => isT (rowRunO n (wG 7) false) = 1) r0_7_false r1_7_false r2_7_false r3_7_false r4_7_false r5_7_false r6_7_false r7_7_false r8_7_false r9_7_false
end Go.Am
