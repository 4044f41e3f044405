/- Parts of an abstract machine and its proofs: QuK10. -/
import Derived.Test.YtcgejflifhjajaaGreatDoorQuT
import Derived.KernelRfl

set_option linter.unusedSimpArgs false
set_option linter.unusedVariables false
namespace Go.Am
theorem r0_4_false : isT (rowRunO 0 (wG 4) false) = 1 := by kernel_rfl
theorem r1_4_false : isT (rowRunO 1 (wG 4) false) = 1 := by kernel_rfl
theorem r2_4_false : isT (rowRunO 2 (wG 4) false) = 1 := by kernel_rfl
theorem r3_4_false : isT (rowRunO 3 (wG 4) false) = 1 := by kernel_rfl
theorem r4_4_false : isT (rowRunO 4 (wG 4) false) = 1 := by kernel_rfl
theorem r5_4_false : isT (rowRunO 5 (wG 4) false) = 1 := by kernel_rfl
theorem r6_4_false : isT (rowRunO 6 (wG 4) false) = 1 := by kernel_rfl
theorem r7_4_false : isT (rowRunO 7 (wG 4) false) = 1 := by kernel_rfl
theorem r8_4_false : isT (rowRunO 8 (wG 4) false) = 1 := by kernel_rfl
theorem r9_4_false : isT (rowRunO 9 (wG 4) false) = 1 := by kernel_rfl
theorem r_4_false : ∀ n, n < 10 → isT (rowRunO n (wG 4) false) = 1 := lt10 (fun n => isT (rowRunO n (wG 4) false) = 1) r0_4_false r1_4_false r2_4_false r3_4_false r4_4_false r5_4_false r6_4_false r7_4_false r8_4_false r9_4_false
end Go.Am
