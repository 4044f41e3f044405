/- Parts of an abstract machine and its proofs: K2. -/
import Derived.Test.YtnfcebbbbhnpiaaGreatDoorMaT
import Derived.KernelRfl

set_option linter.unusedSimpArgs false
set_option linter.unusedVariables false
/- The third machine runs the law at name 2, a word of each length: by the kernel. -/
namespace Go.Am
theorem run_0_2 : isT (rowRun 0 2) = 1 := by kernel_rfl
theorem run_1_2 : isT (rowRun 1 2) = 1 := by kernel_rfl
theorem run_2_2 : isT (rowRun 2 2) = 1 := by kernel_rfl
theorem run_3_2 : isT (rowRun 3 2) = 1 := by kernel_rfl
theorem run_4_2 : isT (rowRun 4 2) = 1 := by kernel_rfl
theorem run_5_2 : isT (rowRun 5 2) = 1 := by kernel_rfl
theorem run_6_2 : isT (rowRun 6 2) = 1 := by kernel_rfl
theorem run_7_2 : isT (rowRun 7 2) = 1 := by kernel_rfl
theorem run_8_2 : isT (rowRun 8 2) = 1 := by kernel_rfl
theorem run_9_2 : isT (rowRun 9 2) = 1 := by kernel_rfl
theorem run_all_2 : ∀ n, n < 10 → isT (rowRun n 2) = 1 := by
  intro n hn
  have h : n = 0 ∨ n = 1 ∨ n = 2 ∨ n = 3 ∨ n = 4 ∨ n = 5 ∨ n = 6 ∨ n = 7 ∨ n = 8 ∨ n = 9 := by omega
  rcases h with rfl | rfl | rfl | rfl | rfl | rfl | rfl | rfl | rfl | rfl
  · exact run_0_2
  · exact run_1_2
  · exact run_2_2
  · exact run_3_2
  · exact run_4_2
  · exact run_5_2
  · exact run_6_2
  · exact run_7_2
  · exact run_8_2
  · exact run_9_2
end Go.Am
