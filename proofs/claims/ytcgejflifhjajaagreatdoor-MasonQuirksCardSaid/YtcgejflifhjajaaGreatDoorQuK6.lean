/- Parts of an abstract machine and its proofs: QuK6. -/
import Derived.Test.YtcgejflifhjajaaGreatDoorQuT
import Derived.KernelRfl

set_option linter.unusedSimpArgs false
set_option linter.unusedVariables false
namespace Go.Am
theorem r0_2_false : isT (rowRunO 0 (wG 2) false) = 1 := by kernel_rfl
theorem r1_2_false : isT (rowRunO 1 (wG 2) false) = 1 := by kernel_rfl
theorem r2_2_false : isT (rowRunO 2 (wG 2) false) = 1 := by kernel_rfl
theorem r3_2_false : isT (rowRunO 3 (wG 2) false) = 1 := by kernel_rfl
theorem r4_2_false : isT (rowRunO 4 (wG 2) false) = 1 := by kernel_rfl
theorem r5_2_false : isT (rowRunO 5 (wG 2) false) = 1 := by kernel_rfl
theorem r6_2_false : isT (rowRunO 6 (wG 2) false) = 1 := by kernel_rfl
theorem r7_2_false : isT (rowRunO 7 (wG 2) false) = 1 := by kernel_rfl
theorem r8_2_false : isT (rowRunO 8 (wG 2) false) = 1 := by kernel_rfl
theorem r9_2_false : isT (rowRunO 9 (wG 2) false) = 1 := by kernel_rfl
theorem r_2_false : ∀ n, n < 10 → isT (rowRunO n (wG 2) false) = 1 := lt10 (fun n => isT (rowRunO n (wG 2) false) = 1) r0_2_false r1_2_false r2_2_false r3_2_false r4_2_false r5_2_false r6_2_false r7_2_false r8_2_false r9_2_false
end Go.Am
