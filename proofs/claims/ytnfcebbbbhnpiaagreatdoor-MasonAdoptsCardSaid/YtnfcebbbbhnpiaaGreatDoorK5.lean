/- Parts of an abstract machine and its proofs: K5. -/
import Derived.Test.YtnfcebbbbhnpiaaGreatDoorMaT
import Derived.KernelRfl

set_option linter.unusedSimpArgs false
set_option linter.unusedVariables false
/- The third machine runs the law at name 5, a word of each length: by the kernel. -/
namespace Go.Am
theorem run_0_5 : isT (rowRun 0 5) = 1 := by kernel_rfl
theorem run_1_5 : isT (rowRun 1 5) = 1 := by kernel_rfl
theorem run_2_5 : isT (rowRun 2 5) = 1 := by kernel_rfl
theorem run_3_5 : isT (rowRun 3 5) = 1 := by kernel_rfl
theorem run_4_5 : isT (rowRun 4 5) = 1 := by kernel_rfl
theorem run_5_5 : isT (rowRun 5 5) = 1 := by kernel_rfl
theorem run_6_5 : isT (rowRun 6 5) = 1 := by kernel_rfl
theorem run_7_5 : isT (rowRun 7 5) = 1 := by kernel_rfl
theorem run_8_5 : isT (rowRun 8 5) = 1 := by kernel_rfl
theorem run_9_5 : isT (rowRun 9 5) = 1 := by kernel_rfl
theorem run_all_5 : ∀ n, n < 10 → isT (rowRun n 5) = 1 := by
  intro n hn
  have h : n = 0 ∨ n = 1 ∨ n = 2 ∨ n = 3 ∨ n = 4 ∨ n = 5 ∨ n = 6 ∨ n = 7 ∨ n = 8 ∨ n = 9 := by omega
  rcases h with rfl | rfl | rfl | rfl | rfl | rfl | rfl | rfl | rfl | rfl
  · exact run_0_5
  · exact run_1_5
  · exact run_2_5
  · exact run_3_5
  · exact run_4_5
  · exact run_5_5
  · exact run_6_5
  · exact run_7_5
  · exact run_8_5
  · exact run_9_5
end Go.Am
