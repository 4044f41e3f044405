/- Parts of an abstract machine and its proofs: QuK11. -/
import Derived.Test.YtcgejflifhjajaaGreatDoorQuT
import Derived.KernelRfl

set_option linter.unusedSimpArgs false
set_option linter.unusedVariables false
namespace Go.Am
theorem r0_4_true : isT (rowRunO 0 (wG 4) true) = 1 := by kernel_rfl
theorem r1_4_true : isT (rowRunO 1 (wG 4) true) = 1 := by kernel_rfl
theorem r2_4_true : isT (rowRunO 2 (wG 4) true) = 1 := by kernel_rfl
theorem r3_4_true : isT (rowRunO 3 (wG 4) true) = 1 := by kernel_rfl
theorem r4_4_true : isT (rowRunO 4 (wG 4) true) = 1 := by kernel_rfl
theorem r5_4_true : isT (rowRunO 5 (wG 4) true) = 1 := by kernel_rfl
theorem r6_4_true : isT (rowRunO 6 (wG 4) true) = 1 := by kernel_rfl
theorem r7_4_true : isT (rowRunO 7 (wG 4) true) = 1 := by kernel_rfl
theorem r8_4_true : isT (rowRunO 8 (wG 4) true) = 1 := by kernel_rfl
theorem r9_4_true : isT (rowRunO 9 (wG 4) true) = 1 := by kernel_rfl
theorem r_4_true : ∀ n, n < 10 → isT (rowRunO n (wG 4) true) = 1 := lt10 (fun n => isT (rowRunO n (wG 4) true) = 1) r0_4_true r1_4_true r2_4_true r3_4_true r4_4_true r5_4_true r6_4_true r7_4_true r8_4_true r9_4_true
end Go.Am
