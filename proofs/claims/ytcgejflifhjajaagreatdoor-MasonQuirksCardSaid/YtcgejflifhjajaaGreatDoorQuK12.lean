/- Parts of an abstract machine and its proofs: QuK12. -/
import Derived.Test.YtcgejflifhjajaaGreatDoorQuT
import Derived.KernelRfl

set_option linter.unusedSimpArgs false
set_option linter.unusedVariables false
namespace Go.Am
theorem r0_5_false : isT (rowRunO 0 (wG 5) false) = 1 := by kernel_rfl
theorem r1_5_false : isT (rowRunO 1 (wG 5) false) = 1 := by kernel_rfl
theorem r2_5_false : isT (rowRunO 2 (wG 5) false) = 1 := by kernel_rfl
theorem r3_5_false : isT (rowRunO 3 (wG 5) false) = 1 := by kernel_rfl
theorem r4_5_false : isT (rowRunO 4 (wG 5) false) = 1 := by kernel_rfl
theorem r5_5_false : isT (rowRunO 5 (wG 5) false) = 1 := by kernel_rfl
theorem r6_5_false : isT (rowRunO 6 (wG 5) false) = 1 := by kernel_rfl
theorem r7_5_false : isT (rowRunO 7 (wG 5) false) = 1 := by kernel_rfl
theorem r8_5_false : isT (rowRunO 8 (wG 5) false) = 1 := by kernel_rfl
theorem r9_5_false : isT (rowRunO 9 (wG 5) false) = 1 := by kernel_rfl
theorem r_5_false : ∀ n, n < 10 → isT (rowRunO n (wG 5) false) = 1 := lt10 (fun n => isT (rowRunO n (wG 5) false) = 1) r0_5_false r1_5_false r2_5_false r3_5_false r4_5_false r5_5_false r6_5_false r7_5_false r8_5_false r9_5_false
end Go.Am
