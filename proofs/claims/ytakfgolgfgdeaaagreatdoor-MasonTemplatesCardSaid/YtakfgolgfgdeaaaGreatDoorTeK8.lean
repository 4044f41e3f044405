/- Parts of an abstract machine and its proofs: TeK8. -/
import Derived.Test.YtakfgolgfgdeaaaGreatDoorTeT
import Derived.KernelRfl

set_option linter.unusedSimpArgs false
set_option linter.unusedVariables false
namespace Go.Am
theorem r0_4_true : isT (rowRunN 0 4 true) = 1 := by kernel_rfl
theorem r1_4_true : isT (rowRunN 1 4 true) = 1 := by kernel_rfl
theorem r2_4_true : isT (rowRunN 2 4 true) = 1 := by kernel_rfl
theorem r3_4_true : isT (rowRunN 3 4 true) = 1 := by kernel_rfl
theorem r4_4_true : isT (rowRunN 4 4 true) = 1 := by kernel_rfl
theorem r5_4_true : isT (rowRunN 5 4 true) = 1 := by kernel_rfl
theorem r6_4_true : isT (rowRunN 6 4 true) = 1 := by kernel_rfl
theorem r7_4_true : isT (rowRunN 7 4 true) = 1 := by kernel_rfl
theorem r8_4_true : isT (rowRunN 8 4 true) = 1 := by kernel_rfl
theorem r9_4_true : isT (rowRunN 9 4 true) = 1 := by kernel_rfl
theorem r_4_true : ∀ n, n < 10 → isT (rowRunN n 4 true) = 1 := lt10 (fun n => isT (rowRunN n 4 true) = 1) r0_4_true r1_4_true r2_4_true r3_4_true r4_4_true r5_4_true r6_4_true r7_4_true r8_4_true r9_4_true
end Go.Am
