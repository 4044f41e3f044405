/- Parts of an abstract machine and its proofs: QuK0. -/
import Derived.Test.YtcgejflifhjajaaGreatDoorQuT
import Derived.KernelRfl

set_option linter.unusedSimpArgs false
set_option linter.unusedVariables false
namespace Go.Am
theorem r0_e_false : isT (rowRunE 0 false) = 1 := by kernel_rfl
theorem r1_e_false : isT (rowRunE 1 false) = 1 := by kernel_rfl
theorem r2_e_false : isT (rowRunE 2 false) = 1 := by kernel_rfl
theorem r3_e_false : isT (rowRunE 3 false) = 1 := by kernel_rfl
theorem r4_e_false : isT (rowRunE 4 false) = 1 := by kernel_rfl
theorem r5_e_false : isT (rowRunE 5 false) = 1 := by kernel_rfl
theorem r6_e_false : isT (rowRunE 6 false) = 1 := by kernel_rfl
theorem r7_e_false : isT (rowRunE 7 false) = 1 := by kernel_rfl
theorem r8_e_false : isT (rowRunE 8 false) = 1 := by kernel_rfl
theorem r9_e_false : isT (rowRunE 9 false) = 1 := by kernel_rfl
theorem r_e_false : ∀ n, n < 10 → isT (rowRunE n false) = 1 := lt10 (fun n => isT (rowRunE n false) = 1) r0_e_false r1_e_false r2_e_false r3_e_false r4_e_false r5_e_false r6_e_false r7_e_false r8_e_false r9_e_false
end Go.Am
