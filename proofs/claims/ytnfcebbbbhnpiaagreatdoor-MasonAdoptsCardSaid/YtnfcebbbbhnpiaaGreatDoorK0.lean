/- Parts of an abstract machine and its proofs: K0. -/
import Derived.Test.YtnfcebbbbhnpiaaGreatDoorMaT
import Derived.KernelRfl

set_option linter.unusedSimpArgs false
set_option linter.unusedVariables false
/- The third machine runs the law at name 0, a word of each length: by the kernel. -/
namespace Go.Am
theorem run_0_0 : isT (rowRun 0 0) = 1 := by kernel_rfl
theorem run_1_0 : isT (rowRun 1 0) = 1 := by kernel_rfl
theorem run_2_0 : isT (rowRun 2 0) = 1 := by kernel_rfl
theorem run_3_0 : isT (rowRun 3 0) = 1 := by kernel_rfl
theorem run_4_0 : isT (rowRun 4 0) = 1 := by kernel_rfl
theorem run_5_0 : isT (rowRun 5 0) = 1 := by kernel_rfl
theorem run_6_0 : isT (rowRun 6 0) = 1 := by kernel_rfl
theorem run_7_0 : isT (rowRun 7 0) = 1 := by kernel_rfl
theorem run_8_0 : isT (rowRun 8 0) = 1 := by kernel_rfl
theorem run_9_0 : isT (rowRun 9 0) = 1 := by kernel_rfl
theorem run_all_0 : ∀ n, n < 10 → isT (rowRun n 0) = 1 := by
  intro n hn
  have h : n = 0 ∨ n = 1 ∨ n = 2 ∨ n = 3 ∨ n = 4 ∨ n = 5 ∨ n = 6 ∨ n = 7 ∨ n = 8 ∨ n = 9 := by omega
  rcases h with rfl | rfl | rfl | rfl | rfl | rfl | rfl | rfl | rfl | rfl
  · exact run_0_0
  · exact run_1_0
  · exact run_2_0
  · exact run_3_0
  · exact run_4_0
  · exact run_5_0
  · exact run_6_0
  · exact run_7_0
  · exact run_8_0
  · exact run_9_0
end Go.Am
