/- Parts of an abstract machine and its proofs: QuK17. -/
import Derived.Test.YtcgejflifhjajaaGreatDoorQuT
import Derived.KernelRfl

set_option linter.unusedSimpArgs false
set_option linter.unusedVariables false
namespace Go.Am
theorem r0_7_true : isT (rowRunO 0 (wG 7) true) = 1 := by kernel_rfl
theorem r1_7_true : isT (rowRunO 1 (wG 7) true) = 1 := by kernel_rfl
theorem r2_7_true : isT (rowRunO 2 (wG 7) true) = 1 := by kernel_rfl
theorem r3_7_true : isT (rowRunO 3 (wG 7) true) = 1 := by kernel_rfl
theorem r4_7_true : isT (rowRunO 4 (wG 7) true) = 1 := by kernel_rfl
theorem r5_7_true : isT (rowRunO 5 (wG 7) true) = 1 := by kernel_rfl
theorem r6_7_true : isT (rowRunO 6 (wG 7) true) = 1 := by kernel_rfl
theorem r7_7_true : isT (rowRunO 7 (wG 7) true) = 1 := by kernel_rfl
theorem r8_7_true : isT (rowRunO 8 (wG 7) true) = 1 := by kernel_rfl
theorem r9_7_true : isT (rowRunO 9 (wG 7) true) = 1 := by kernel_rfl
theorem r_7_true : ∀ n, n < 10 → isT (rowRunO n (wG 7) true) = 1 := lt10 (fun n => isT (rowRunO n (wG 7) true) = 1) r0_7_true r1_7_true r2_7_true r3_7_true r4_7_true r5_7_true r6_7_true r7_7_true r8_7_true r9_7_true
end Go.Am
