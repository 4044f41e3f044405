/- Parts of an abstract machine and its proofs: TeK16. -/
import Derived.Test.YtakfgolgfgdeaaaGreatDoorTeT
import Derived.KernelRfl

set_option linter.unusedSimpArgs false
set_option linter.unusedVariables false
namespace Go.Am
theorem r0_8_true : isT (rowRunN 0 8 true) = 1 := by kernel_rfl
theorem r1_8_true : isT (rowRunN 1 8 true) = 1 := by kernel_rfl
theorem r2_8_true : isT (rowRunN 2 8 true) = 1 := by kernel_rfl
theorem r3_8_true : isT (rowRunN 3 8 true) = 1 := by kernel_rfl
theorem r4_8_true : isT (rowRunN 4 8 true) = 1 := by kernel_rfl
theorem r5_8_true : isT (rowRunN 5 8 true) = 1 := by kernel_rfl
theorem r6_8_true : isT (rowRunN 6 8 true) = 1 := by kernel_rfl
theorem r7_8_true : isT (rowRunN 7 8 true) = 1 := by kernel_rfl
theorem r8_8_true : isT (rowRunN 8 8 true) = 1 := by kernel_rfl
theorem r9_8_true : isT (rowRunN 9 8 true) = 1 := by kernel_rfl
theorem r_8_true : ∀ n, n < 10 → isT (rowRunN n 8 true) = 1 := lt10 (fun n => isT (rowRunN n 8 true) = 1) r0_8_true r1_8_true r2_8_true r3_8_true r4_8_true r5_8_true r6_8_true r7_8_true r8_8_true r9_8_true
end Go.Am
