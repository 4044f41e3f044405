/- Parts of an abstract machine and its proofs: K2. -/
import Derived.Test.YtbnklhccpbggiaaGreatDoorMaT
import Derived.KernelRfl

set_option linter.unusedSimpArgs false
set_option linter.unusedVariables false
/- The third machine runs the law at case 2, a word of each length: by the kernel. -/
namespace Go.Am
theorem runN_0_2 : isT (rowRunN 0 2) = 1 := by kernel_rfl
theorem runN_1_2 : isT (rowRunN 1 2) = 1 := by kernel_rfl
theorem runN_2_2 : isT (rowRunN 2 2) = 1 := by kernel_rfl
theorem runN_3_2 : isT (rowRunN 3 2) = 1 := by kernel_rfl
theorem runN_4_2 : isT (rowRunN 4 2) = 1 := by kernel_rfl
theorem runN_5_2 : isT (rowRunN 5 2) = 1 := by kernel_rfl
theorem runN_6_2 : isT (rowRunN 6 2) = 1 := by kernel_rfl
theorem runN_7_2 : isT (rowRunN 7 2) = 1 := by kernel_rfl
theorem runN_8_2 : isT (rowRunN 8 2) = 1 := by kernel_rfl
theorem runN_9_2 : isT (rowRunN 9 2) = 1 := by kernel_rfl
theorem runN_all_2 : ∀ n, n < 10 → isT (rowRunN n 2) = 1 := by
  intro n hn
  have h : n = 0 ∨ n = 1 ∨ n = 2 ∨ n = 3 ∨ n = 4 ∨ n = 5 ∨ n = 6 ∨ n = 7 ∨ n = 8 ∨ n = 9 := by omega
  rcases h with rfl | rfl | rfl | rfl | rfl | rfl | rfl | rfl | rfl | rfl
  · exact runN_0_2
  · exact runN_1_2
  · exact runN_2_2
  · exact runN_3_2
  · exact runN_4_2
  · exact runN_5_2
  · exact runN_6_2
  · exact runN_7_2
  · exact runN_8_2
  · exact runN_9_2
end Go.Am
