/- Parts of an abstract machine and its proofs: TeK0. -/
import Derived.Test.YtakfgolgfgdeaaaGreatDoorTeT
import Derived.KernelRfl

set_option linter.unusedSimpArgs false
set_option linter.unusedVariables false
namespace Go.Am
theorem r0_0_true : isT (rowRunN 0 0 true) = 1 := by kernel_rfl
theorem r1_0_true : isT (rowRunN 1 0 true) = 1 := by kernel_rfl
theorem r2_0_true : isT (rowRunN 2 0 true) = 1 := by kernel_rfl
theorem r3_0_true : isT (rowRunN 3 0 true) = 1 := by kernel_rfl
theorem r4_0_true : isT (rowRunN 4 0 true) = 1 := by kernel_rfl
theorem r5_0_true : isT (rowRunN 5 0 true) = 1 := by kernel_rfl
theorem r6_0_true : isT (rowRunN 6 0 true) = 1 := by kernel_rfl
theorem r7_0_true : isT (rowRunN 7 0 true) = 1 := by kernel_rfl
theorem r8_0_true : isT (rowRunN 8 0 true) = 1 := by kernel_rfl
theorem r9_0_true : isT (rowRunN 9 0 true) = 1 := by kernel_rfl
theorem r_0_true : ∀ n, n < 10 → isT (rowRunN n 0 true) = 1 := lt10 (fun n => isT (rowRunN n 0 true) = 1) r0_0_true r1_0_true r2_0_true r3_0_true r4_0_true r5_0_true r6_0_true r7_0_true r8_0_true r9_0_true
end Go.Am
