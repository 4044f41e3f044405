/- Parts of an abstract machine and its proofs: K3. -/
import Derived.Test.YtnfcebbbbhnpiaaGreatDoorMaT
import Derived.KernelRfl

set_option linter.unusedSimpArgs false
set_option linter.unusedVariables false
/- The third machine runs the law at name 3, a word of each length: by the kernel. -/
namespace Go.Am
theorem run_0_3 : isT (rowRun 0 3) = 1 := by kernel_rfl
theorem run_1_3 : isT (rowRun 1 3) = 1 := by kernel_rfl
theorem run_2_3 : isT (rowRun 2 3) = 1 := by kernel_rfl
theorem run_3_3 : isT (rowRun 3 3) = 1 := by kernel_rfl
theorem run_4_3 : isT (rowRun 4 3) = 1 := by kernel_rfl
theorem run_5_3 : isT (rowRun 5 3) = 1 := by kernel_rfl
theorem run_6_3 : isT (rowRun 6 3) = 1 := by kernel_rfl
theorem run_7_3 : isT (rowRun 7 3) = 1 := by kernel_rfl
theorem run_8_3 : isT (rowRun 8 3) = 1 := by kernel_rfl
theorem run_9_3 : isT (rowRun 9 3) = 1 := by kernel_rfl
theorem run_all_3 : ∀ n, n < 10 → isT (rowRun n 3) = 1 := by
  intro n hn
  have h : n = 0 ∨ n = 1 ∨ n = 2 ∨ n = 3 ∨ n = 4 ∨ n = 5 ∨ n = 6 ∨ n = 7 ∨ n = 8 ∨ n = 9 := by omega
  rcases h with rfl | rfl | rfl | rfl | rfl | rfl | rfl | rfl | rfl | rfl
  · exact run_0_3
  · exact run_1_3
  · exact run_2_3
  · exact run_3_3
  · exact run_4_3
  · exact run_5_3
  · exact run_6_3
  · exact run_7_3
  · exact run_8_3
  · exact run_9_3
end Go.Am
