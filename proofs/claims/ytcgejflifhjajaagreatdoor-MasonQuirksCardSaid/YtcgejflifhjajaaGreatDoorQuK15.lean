/- Parts of an abstract machine and its proofs: QuK15. -/
import Derived.Test.YtcgejflifhjajaaGreatDoorQuT
import Derived.KernelRfl

set_option linter.unusedSimpArgs false
set_option linter.unusedVariables false
namespace Go.Am
theorem r0_6_true : isT (rowRunO 0 (wG 6) true) = 1 := by kernel_rfl
theorem r1_6_true : isT (rowRunO 1 (wG 6) true) = 1 := by kernel_rfl
theorem r2_6_true : isT (rowRunO 2 (wG 6) true) = 1 := by kernel_rfl
theorem r3_6_true : isT (rowRunO 3 (wG 6) true) = 1 := by kernel_rfl
theorem r4_6_true : isT (rowRunO 4 (wG 6) true) = 1 := by kernel_rfl
theorem r5_6_true : isT (rowRunO 5 (wG 6) true) = 1 := by kernel_rfl
theorem r6_6_true : isT (rowRunO 6 (wG 6) true) = 1 := by kernel_rfl
theorem r7_6_true : isT (rowRunO 7 (wG 6) true) = 1 := by kernel_rfl
theorem r8_6_true : isT (rowRunO 8 (wG 6) true) = 1 := by kernel_rfl
theorem r9_6_true : isT (rowRunO 9 (wG 6) true) = 1 := by kernel_rfl
theorem r_6_true : ∀ n, n < 10 → isT (rowRunO n (wG 6) true) = 1 := lt10 (fun n => isT (rowRunO n (wG 6) true) = 1) r0_6_true r1_6_true r2_6_true r3_6_true r4_6_true r5_6_true r6_6_true r7_6_true r8_6_true r9_6_true
end Go.Am
