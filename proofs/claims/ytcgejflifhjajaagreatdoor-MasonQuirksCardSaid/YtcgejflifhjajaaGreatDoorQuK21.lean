/- Parts of an abstract machine and its proofs: QuK21. -/
import Derived.Test.YtcgejflifhjajaaGreatDoorQuT
import Derived.KernelRfl

set_option linter.unusedSimpArgs false
set_option linter.unusedVariables false
namespace Go.Am
theorem r0_9_true : isT (rowRunO 0 (wG 9) true) = 1 := by kernel_rfl
theorem r1_9_true : isT (rowRunO 1 (wG 9) true) = 1 := by kernel_rfl
theorem r2_9_true : isT (rowRunO 2 (wG 9) true) = 1 := by kernel_rfl
theorem r3_9_true : isT (rowRunO 3 (wG 9) true) = 1 := by kernel_rfl
theorem r4_9_true : isT (rowRunO 4 (wG 9) true) = 1 := by kernel_rfl
theorem r5_9_true : isT (rowRunO 5 (wG 9) true) = 1 := by kernel_rfl
theorem r6_9_true : isT (rowRunO 6 (wG 9) true) = 1 := by kernel_rfl
theorem r7_9_true : isT (rowRunO 7 (wG 9) true) = 1 := by kernel_rfl
theorem r8_9_true : isT (rowRunO 8 (wG 9) true) = 1 := by kernel_rfl
theorem r9_9_true : isT (rowRunO 9 (wG 9) true) = 1 := by kernel_rfl
theorem r_9_true : ∀ n, n < 10 → isT (rowRunO n (wG 9) true) = 1 := lt10 (fun n => isT (rowRunO n (wG 9) true) = 1) r0_9_true r1_9_true r2_9_true r3_9_true r4_9_true r5_9_true r6_9_true r7_9_true r8_9_true r9_9_true
end Go.Am
