/- Parts of an abstract machine and its proofs: QuK13. -/
import Derived.Test.YtcgejflifhjajaaGreatDoorQuT
import Derived.KernelRfl

set_option linter.unusedSimpArgs false
set_option linter.unusedVariables false
namespace Go.Am
theorem r0_5_true : isT (rowRunO 0 (wG 5) true) = 1 := by kernel_rfl
theorem r1_5_true : isT (rowRunO 1 (wG 5) true) = 1 := by kernel_rfl
theorem r2_5_true : isT (rowRunO 2 (wG 5) true) = 1 := by kernel_rfl
theorem r3_5_true : isT (rowRunO 3 (wG 5) true) = 1 := by kernel_rfl
theorem r4_5_true : isT (rowRunO 4 (wG 5) true) = 1 := by kernel_rfl
theorem r5_5_true : isT (rowRunO 5 (wG 5) true) = 1 := by kernel_rfl
theorem r6_5_true : isT (rowRunO 6 (wG 5) true) = 1 := by kernel_rfl
theorem r7_5_true : isT (rowRunO 7 (wG 5) true) = 1 := by kernel_rfl
theorem r8_5_true : isT (rowRunO 8 (wG 5) true) = 1 := by kernel_rfl
theorem r9_5_true : isT (rowRunO 9 (wG 5) true) = 1 := by kernel_rfl
theorem r_5_true : ∀ n, n < 10 → isT (rowRunO n (wG 5) true) = 1 := lt10 (fun n => isT (rowRunO n (wG 5) true) = 1) r0_5_true r1_5_true r2_5_true r3_5_true r4_5_true r5_5_true r6_5_true r7_5_true r8_5_true r9_5_true
end Go.Am
