/- Parts of an abstract machine and its proofs: TeK6. -/
import Derived.Test.YtakfgolgfgdeaaaGreatDoorTeT
import Derived.KernelRfl

set_option linter.unusedSimpArgs false
set_option linter.unusedVariables false
namespace Go.Am
theorem r0_3_true : isT (rowRunN 0 3 true) = 1 := by kernel_rfl
theorem r1_3_true : isT (rowRunN 1 3 true) = 1 := by kernel_rfl
theorem r2_3_true : isT (rowRunN 2 3 true) = 1 := by kernel_rfl
theorem r3_3_true : isT (rowRunN 3 3 true) = 1 := by kernel_rfl
theorem r4_3_true : isT (rowRunN 4 3 true) = 1 := by kernel_rfl
theorem r5_3_true : isT (rowRunN 5 3 true) = 1 := by kernel_rfl
theorem r6_3_true : isT (rowRunN 6 3 true) = 1 := by kernel_rfl
theorem r7_3_true : isT (rowRunN 7 3 true) = 1 := by kernel_rfl
theorem r8_3_true : isT (rowRunN 8 3 true) = 1 := by kernel_rfl
theorem r9_3_true : isT (rowRunN 9 3 true) = 1 := by kernel_rfl
theorem r_3_true : ∀ n, n < 10 → isT (rowRunN n 3 true) = 1 := lt10 (fun n => isT (rowRunN n 3 true) = 1) r0_3_true r1_3_true r2_3_true r3_3_true r4_3_true r5_3_true r6_3_true r7_3_true r8_3_true r9_3_true
end Go.Am
