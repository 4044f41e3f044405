/- Parts of an abstract machine and its proofs: QuK14. -/
import Derived.Test.YtcgejflifhjajaaGreatDoorQuT
import Derived.KernelRfl

set_option linter.unusedSimpArgs false
set_option linter.unusedVariables false
namespace Go.Am
theorem r0_6_false : isT (rowRunO 0 (wG 6) false) = 1 := by kernel_rfl
theorem r1_6_false : isT (rowRunO 1 (wG 6) false) = 1 := by kernel_rfl
theorem r2_6_false : isT (rowRunO 2 (wG 6) false) = 1 := by kernel_rfl
theorem r3_6_false : isT (rowRunO 3 (wG 6) false) = 1 := by kernel_rfl
theorem r4_6_false : isT (rowRunO 4 (wG 6) false) = 1 := by kernel_rfl
theorem r5_6_false : isT (rowRunO 5 (wG 6) false) = 1 := by kernel_rfl
theorem r6_6_false : isT (rowRunO 6 (wG 6) false) = 1 := by kernel_rfl
theorem r7_6_false : isT (rowRunO 7 (wG 6) false) = 1 := by kernel_rfl
theorem r8_6_false : isT (rowRunO 8 (wG 6) false) = 1 := by kernel_rfl
theorem r9_6_false : isT (rowRunO 9 (wG 6) false) = 1 := by kernel_rfl
theorem r_6_false : ∀ n, n < 10 → isT (rowRunO n (wG 6) false) = 1 := lt10 (fun n => isT (rowRunO n (wG 6) false) = 1) r0_6_false r1_6_false r2_6_false r3_6_false r4_6_false r5_6_false r6_6_false r7_6_false r8_6_false r9_6_false
end Go.Am
