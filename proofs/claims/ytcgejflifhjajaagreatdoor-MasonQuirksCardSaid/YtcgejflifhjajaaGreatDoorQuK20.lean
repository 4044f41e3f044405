/- Parts of an abstract machine and its proofs: QuK20. -/
import Derived.Test.YtcgejflifhjajaaGreatDoorQuT
import Derived.KernelRfl

set_option linter.unusedSimpArgs false
set_option linter.unusedVariables false
namespace Go.Am
theorem r0_9_false : isT (rowRunO 0 (wG 9) false) = 1 := by kernel_rfl
theorem r1_9_false : isT (rowRunO 1 (wG 9) false) = 1 := by kernel_rfl
theorem r2_9_false : isT (rowRunO 2 (wG 9) false) = 1 := by kernel_rfl
theorem r3_9_false : isT (rowRunO 3 (wG 9) false) = 1 := by kernel_rfl
theorem r4_9_false : isT (rowRunO 4 (wG 9) false) = 1 := by kernel_rfl
theorem r5_9_false : isT (rowRunO 5 (wG 9) false) = 1 := by kernel_rfl
theorem r6_9_false : isT (rowRunO 6 (wG 9) false) = 1 := by kernel_rfl
theorem r7_9_false : isT (rowRunO 7 (wG 9) false) = 1 := by kernel_rfl
theorem r8_9_false : isT (rowRunO 8 (wG 9) false) = 1 := by kernel_rfl
theorem r9_9_false : isT (rowRunO 9 (wG 9) false) = 1 := by kernel_rfl
theorem r_9_false : ∀ n, n < 10 → isT (rowRunO n (wG 9) false) = 1 := lt10 (fun n => isT (rowRunO n (wG 9) false) = 1) r0_9_false r1_9_false r2_9_false r3_9_false r4_9_false r5_9_false r6_9_false r7_9_false r8_9_false r9_9_false
end Go.Am
