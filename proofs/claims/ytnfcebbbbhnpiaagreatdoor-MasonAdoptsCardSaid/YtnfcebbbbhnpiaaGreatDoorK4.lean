/- Parts of an abstract machine and its proofs: K4. -/
import Derived.Test.YtnfcebbbbhnpiaaGreatDoorMaT
import Derived.KernelRfl

set_option linter.unusedSimpArgs false
set_option linter.unusedVariables false
/- The third machine runs the law at name 4, a word of each length: by the kernel. -/
namespace Go.Am
theorem run_0_4 : isT (rowRun 0 4) = 1 := by kernel_rfl
theorem run_1_4 : isT (rowRun 1 4) = 1 := by kernel_rfl
theorem run_2_4 : isT (rowRun 2 4) = 1 := by kernel_rfl
theorem run_3_4 : isT (rowRun 3 4) = 1 := by kernel_rfl
theorem run_4_4 : isT (rowRun 4 4) = 1 := by kernel_rfl
theorem run_5_4 : isT (rowRun 5 4) = 1 := by kernel_rfl
theorem run_6_4 : isT (rowRun 6 4) = 1 := by kernel_rfl
theorem run_7_4 : isT (rowRun 7 4) = 1 := by kernel_rfl
theorem run_8_4 : isT (rowRun 8 4) = 1 := by kernel_rfl
theorem run_9_4 : isT (rowRun 9 4) = 1 := by kernel_rfl
theorem run_all_4 : ∀ n, n < 10 → isT (rowRun n 4) = 1 := by
  intro n hn
  have h : n = 0 ∨ n = 1 ∨ n = 2 ∨ n = 3 ∨ n = 4 ∨ n = 5 ∨ n = 6 ∨ n = 7 ∨ n = 8 ∨ n = 9 := by omega
  rcases h with rfl | rfl | rfl | rfl | rfl | rfl | rfl | rfl | rfl | rfl
  · exact run_0_4
  · exact run_1_4
  · exact run_2_4
  · exact run_3_4
  · exact run_4_4
  · exact run_5_4
  · exact run_6_4
  · exact run_7_4
  · exact run_8_4
  · exact run_9_4
end Go.Am
