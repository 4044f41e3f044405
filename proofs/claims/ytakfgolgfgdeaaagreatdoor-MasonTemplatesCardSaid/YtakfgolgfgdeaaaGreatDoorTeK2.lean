/- Parts of an abstract machine and its proofs: TeK2. -/
import Derived.Test.YtakfgolgfgdeaaaGreatDoorTeT
import Derived.KernelRfl

set_option linter.unusedSimpArgs false
set_option linter.unusedVariables false
namespace Go.Am
theorem r0_1_true : isT (rowRunN 0 1 true) = 1 := by kernel_rfl
theorem r1_1_true : isT (rowRunN 1 1 true) = 1 := by kernel_rfl
theorem r2_1_true : isT (rowRunN 2 1 true) = 1 := by kernel_rfl
theorem r3_1_true : isT (rowRunN 3 1 true) = 1 := by kernel_rfl
theorem r4_1_true : isT (rowRunN 4 1 true) = 1 := by kernel_rfl
theorem r5_1_true : isT (rowRunN 5 1 true) = 1 := by kernel_rfl
theorem r6_1_true : isT (rowRunN 6 1 true) = 1 := by kernel_rfl
theorem r7_1_true : isT (rowRunN 7 1 true) = 1 := by kernel_rfl
theorem r8_1_true : isT (rowRunN 8 1 true) = 1 := by kernel_rfl
theorem r9_1_true : isT (rowRunN 9 1 true) = 1 := by kernel_rfl
theorem r_1_true : ∀ n, n < 10 → isT (rowRunN n 1 true) = 1 := lt10 (fun n => isT (rowRunN n 1 true) = 1) r0_1_true r1_1_true r2_1_true r3_1_true r4_1_true r5_1_true r6_1_true r7_1_true r8_1_true r9_1_true
end Go.Am
