/- Parts of an abstract machine and its proofs: TeK14. -/
import Derived.Test.YtakfgolgfgdeaaaGreatDoorTeT
import Derived.KernelRfl

set_option linter.unusedSimpArgs false
set_option linter.unusedVariables false
namespace Go.Am
theorem r0_7_true : isT (rowRunN 0 7 true) = 1 := by kernel_rfl
theorem r1_7_true : isT (rowRunN 1 7 true) = 1 := by kernel_rfl
theorem r2_7_true : isT (rowRunN 2 7 true) = 1 := by kernel_rfl
theorem r3_7_true : isT (rowRunN 3 7 true) = 1 := by kernel_rfl
theorem r4_7_true : isT (rowRunN 4 7 true) = 1 := by kernel_rfl
theorem r5_7_true : isT (rowRunN 5 7 true) = 1 := by kernel_rfl
theorem r6_7_true : isT (rowRunN 6 7 true) = 1 := by kernel_rfl
theorem r7_7_true : isT (rowRunN 7 7 true) = 1 := by kernel_rfl
theorem r8_7_true : isT (rowRunN 8 7 true) = 1 := by kernel_rfl
theorem r9_7_true : isT (rowRunN 9 7 true) = 1 := by kernel_rfl
theorem r_7_true : ∀ n, n < 10 → isT (rowRunN n 7 true) = 1 := lt10 (fun n => isT (rowRunN n 7 true) = 1) r0_7_true r1_7_true r2_7_true r3_7_true r4_7_true r5_7_true r6_7_true r7_7_true r8_7_true r9_7_true
end Go.Am
