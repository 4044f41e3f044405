/- Parts of an abstract machine and its proofs: K1. -/
import Derived.Test.YtnfcebbbbhnpiaaGreatDoorMaT
import Derived.KernelRfl

set_option linter.unusedSimpArgs false
set_option linter.unusedVariables false
/- The third machine runs the law at name 1, a word of each length: by the kernel. -/
namespace Go.Am
theorem run_0_1 : isT (rowRun 0 1) = 1 := by kernel_rfl
theorem run_1_1 : isT (rowRun 1 1) = 1 := by kernel_rfl
theorem run_2_1 : isT (rowRun 2 1) = 1 := by kernel_rfl
theorem run_3_1 : isT (rowRun 3 1) = 1 := by kernel_rfl
theorem run_4_1 : isT (rowRun 4 1) = 1 := by kernel_rfl
theorem run_5_1 : isT (rowRun 5 1) = 1 := by kernel_rfl
theorem run_6_1 : isT (rowRun 6 1) = 1 := by kernel_rfl
theorem run_7_1 : isT (rowRun 7 1) = 1 := by kernel_rfl
theorem run_8_1 : isT (rowRun 8 1) = 1 := by kernel_rfl
theorem run_9_1 : isT (rowRun 9 1) = 1 := by kernel_rfl
theorem run_all_1 : ∀ n, n < 10 → isT (rowRun n 1) = 1 := by
  intro n hn
  have h : n = 0 ∨ n = 1 ∨ n = 2 ∨ n = 3 ∨ n = 4 ∨ n = 5 ∨ n = 6 ∨ n = 7 ∨ n = 8 ∨ n = 9 := by omega
  rcases h with rfl | rfl | rfl | rfl | rfl | rfl | rfl | rfl | rfl | rfl
  · exact run_0_1
  · exact run_1_1
  · exact run_2_1
  · exact run_3_1
  · exact run_4_1
  · exact run_5_1
  · exact run_6_1
  · exact run_7_1
  · exact run_8_1
  · exact run_9_1
end Go.Am
