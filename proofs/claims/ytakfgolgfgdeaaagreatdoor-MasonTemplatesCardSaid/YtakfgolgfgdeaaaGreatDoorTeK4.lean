/- Parts of an abstract machine and its proofs: TeK4. -/
import Derived.Test.YtakfgolgfgdeaaaGreatDoorTeT
import Derived.KernelRfl

set_option linter.unusedSimpArgs false
set_option linter.unusedVariables false
namespace Go.Am
theorem r0_2_true : isT (rowRunN 0 2 true) = 1 := by kernel_rfl
theorem r1_2_true : isT (rowRunN 1 2 true) = 1 := by kernel_rfl
theorem r2_2_true : isT (rowRunN 2 2 true) = 1 := by kernel_rfl
theorem r3_2_true : isT (rowRunN 3 2 true) = 1 := by kernel_rfl
theorem r4_2_true : isT (rowRunN 4 2 true) = 1 := by kernel_rfl
theorem r5_2_true : isT (rowRunN 5 2 true) = 1 := by kernel_rfl
theorem r6_2_true : isT (rowRunN 6 2 true) = 1 := by kernel_rfl
theorem r7_2_true : isT (rowRunN 7 2 true) = 1 := by kernel_rfl
theorem r8_2_true : isT (rowRunN 8 2 true) = 1 := by kernel_rfl
theorem r9_2_true : isT (rowRunN 9 2 true) = 1 := by kernel_rfl
theorem r_2_true : ∀ n, n < 10 → isT (rowRunN n 2 true) = 1 := lt10 (fun n => isT (rowRunN n 2 true) = 1) r0_2_true r1_2_true r2_2_true r3_2_true r4_2_true r5_2_true r6_2_true r7_2_true r8_2_true r9_2_true
end Go.Am
