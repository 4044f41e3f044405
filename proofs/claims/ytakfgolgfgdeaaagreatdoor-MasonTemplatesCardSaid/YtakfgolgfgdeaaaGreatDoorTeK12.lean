/- Parts of an abstract machine and its proofs: TeK12. -/
import Derived.Test.YtakfgolgfgdeaaaGreatDoorTeT
import Derived.KernelRfl

set_option linter.unusedSimpArgs false
set_option linter.unusedVariables false
namespace Go.Am
theorem r0_6_true : isT (rowRunN 0 6 true) = 1 := by kernel_rfl
theorem r1_6_true : isT (rowRunN 1 6 true) = 1 := by kernel_rfl
theorem r2_6_true : isT (rowRunN 2 6 true) = 1 := by kernel_rfl
theorem r3_6_true : isT (rowRunN 3 6 true) = 1 := by kernel_rfl
theorem r4_6_true : isT (rowRunN 4 6 true) = 1 := by kernel_rfl
theorem r5_6_true : isT (rowRunN 5 6 true) = 1 := by kernel_rfl
theorem r6_6_true : isT (rowRunN 6 6 true) = 1 := by kernel_rfl
theorem r7_6_true : isT (rowRunN 7 6 true) = 1 := by kernel_rfl
theorem r8_6_true : isT (rowRunN 8 6 true) = 1 := by kernel_rfl
theorem r9_6_true : isT (rowRunN 9 6 true) = 1 := by kernel_rfl
theorem r_6_true : ∀ n, n < 10 → isT (rowRunN n 6 true) = 1 := lt10 (fun n => isT (rowRunN n 6 true) = 1) r0_6_true r1_6_true r2_6_true r3_6_true r4_6_true r5_6_true r6_6_true r7_6_true r8_6_true r9_6_true
end Go.Am
