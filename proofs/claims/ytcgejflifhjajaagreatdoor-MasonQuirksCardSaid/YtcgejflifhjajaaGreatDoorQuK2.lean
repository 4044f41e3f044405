/- Parts of an abstract machine and its proofs: QuK2. -/
import Derived.Test.YtcgejflifhjajaaGreatDoorQuT
import Derived.KernelRfl

set_option linter.unusedSimpArgs false
set_option linter.unusedVariables false
namespace Go.Am
theorem r0_0_false : isT (rowRunO 0 (wG 0) false) = 1 := by kernel_rfl
theorem r1_0_false : isT (rowRunO 1 (wG 0) false) = 1 := by kernel_rfl
theorem r2_0_false : isT (rowRunO 2 (wG 0) false) = 1 := by kernel_rfl
theorem r3_0_false : isT (rowRunO 3 (wG 0) false) = 1 := by kernel_rfl
theorem r4_0_false : isT (rowRunO 4 (wG 0) false) = 1 := by kernel_rfl
theorem r5_0_false : isT (rowRunO 5 (wG 0) false) = 1 := by kernel_rfl
theorem r6_0_false : isT (rowRunO 6 (wG 0) false) = 1 := by kernel_rfl
theorem r7_0_false : isT (rowRunO 7 (wG 0) false) = 1 := by kernel_rfl
theorem r8_0_false : isT (rowRunO 8 (wG 0) false) = 1 := by kernel_rfl
theorem r9_0_false : isT (rowRunO 9 (wG 0) false) = 1 := by kernel_rfl
theorem r_0_false : ∀ n, n < 10 → isT (rowRunO n (wG 0) false) = 1 := lt10 (fun n => isT (rowRunO n (wG 0) false) = 1) r0_0_false r1_0_false r2_0_false r3_0_false r4_0_false r5_0_false r6_0_false r7_0_false r8_0_false r9_0_false
end Go.Am
