/- Parts of an abstract machine and its proofs: QuK3. -/
import Derived.Test.YtcgejflifhjajaaGreatDoorQuT
import Derived.KernelRfl

set_option linter.unusedSimpArgs false
set_option linter.unusedVariables false
namespace Go.Am
theorem r0_0_true : isT (rowRunO 0 (wG 0) true) = 1 := by kernel_rfl
theorem r1_0_true : isT (rowRunO 1 (wG 0) true) = 1 := by kernel_rfl
theorem r2_0_true : isT (rowRunO 2 (wG 0) true) = 1 := by kernel_rfl
theorem r3_0_true : isT (rowRunO 3 (wG 0) true) = 1 := by kernel_rfl
theorem r4_0_true : isT (rowRunO 4 (wG 0) true) = 1 := by kernel_rfl
theorem r5_0_true : isT (rowRunO 5 (wG 0) true) = 1 := by kernel_rfl
theorem r6_0_true : isT (rowRunO 6 (wG 0) true) = 1 := by kernel_rfl
theorem r7_0_true : isT (rowRunO 7 (wG 0) true) = 1 := by kernel_rfl
theorem r8_0_true : isT (rowRunO 8 (wG 0) true) = 1 := by kernel_rfl
theorem r9_0_true : isT (rowRunO 9 (wG 0) true) = 1 := by kernel_rfl
theorem r_0_true : ∀ n, n < 10 → isT (rowRunO n (wG 0) true) = 1 := lt10 (fun n => isT (rowRunO n (wG 0) true) = 1) r0_0_true r1_0_true r2_0_true r3_0_true r4_0_true r5_0_true r6_0_true r7_0_true r8_0_true r9_0_true
end Go.Am
