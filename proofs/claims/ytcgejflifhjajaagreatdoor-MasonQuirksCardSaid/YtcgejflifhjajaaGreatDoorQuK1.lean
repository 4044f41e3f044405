/- Parts of an abstract machine and its proofs: QuK1. -/
import Derived.Test.YtcgejflifhjajaaGreatDoorQuT
import Derived.KernelRfl

set_option linter.unusedSimpArgs false
set_option linter.unusedVariables false
namespace Go.Am
theorem r0_e_true : isT (rowRunE 0 true) = 1 := by kernel_rfl
theorem r1_e_true : isT (rowRunE 1 true) = 1 := by kernel_rfl
theorem r2_e_true : isT (rowRunE 2 true) = 1 := by kernel_rfl
theorem r3_e_true : isT (rowRunE 3 true) = 1 := by kernel_rfl
theorem r4_e_true : isT (rowRunE 4 true) = 1 := by kernel_rfl
theorem r5_e_true : isT (rowRunE 5 true) = 1 := by kernel_rfl
theorem r6_e_true : isT (rowRunE 6 true) = 1 := by kernel_rfl
theorem r7_e_true : isT (rowRunE 7 true) = 1 := by kernel_rfl
theorem r8_e_true : isT (rowRunE 8 true) = 1 := by kernel_rfl
theorem r9_e_true : isT (rowRunE 9 true) = 1 := by kernel_rfl
theorem r_e_true : ∀ n, n < 10 → isT (rowRunE n true) = 1 := lt10 (fun n => isT (rowRunE n true) = 1) r0_e_true r1_e_true r2_e_true r3_e_true r4_e_true r5_e_true r6_e_true r7_e_true r8_e_true r9_e_true
end Go.Am
