/- Parts of an abstract machine and its proofs: TeK10. -/
import Derived.Test.YtakfgolgfgdeaaaGreatDoorTeT
import Derived.KernelRfl

set_option linter.unusedSimpArgs false
set_option linter.unusedVariables false
namespace Go.Am
theorem r0_5_true : isT (rowRunN 0 5 true) = 1 := by kernel_rfl
theorem r1_5_true : isT (rowRunN 1 5 true) = 1 := by kernel_rfl
theorem r2_5_true : isT (rowRunN 2 5 true) = 1 := by kernel_rfl
theorem r3_5_true : isT (rowRunN 3 5 true) = 1 := by kernel_rfl
theorem r4_5_true : isT (rowRunN 4 5 true) = 1 := by kernel_rfl
theorem r5_5_true : isT (rowRunN 5 5 true) = 1 := by kernel_rfl
theorem r6_5_true : isT (rowRunN 6 5 true) = 1 := by kernel_rfl
theorem r7_5_true : isT (rowRunN 7 5 true) = 1 := by kernel_rfl
theorem r8_5_true : isT (rowRunN 8 5 true) = 1 := by kernel_rfl
theorem r9_5_true : isT (rowRunN 9 5 true) = 1 := by kernel_rfl
theorem r_5_true : ∀ n, n < 10 → isT (rowRunN n 5 true) = 1 := lt10 (fun n => isT (rowRunN n 5 true) = 1) r0_5_true r1_5_true r2_5_true r3_5_true r4_5_true r5_5_true r6_5_true r7_5_true r8_5_true r9_5_true
end Go.Am
