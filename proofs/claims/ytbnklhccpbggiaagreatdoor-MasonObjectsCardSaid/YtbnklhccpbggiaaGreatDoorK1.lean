/- Parts of an abstract machine and its proofs: K1. -/
import Derived.Test.YtbnklhccpbggiaaGreatDoorMaT
import Derived.KernelRfl

set_option linter.unusedSimpArgs false
set_option linter.unusedVariables false
/- The third machine runs the law at case 1, a word of each length: by the kernel. -/
namespace Go.Am
theorem runN_0_1 : isT (rowRunN 0 1) = 1 := by kernel_rfl
theorem runN_1_1 : isT (rowRunN 1 1) = 1 := by kernel_rfl
theorem runN_2_1 : isT (rowRunN 2 1) = 1 := by kernel_rfl
theorem runN_3_1 : isT (rowRunN 3 1) = 1 := by kernel_rfl
theorem runN_4_1 : isT (rowRunN 4 1) = 1 := by kernel_rfl
theorem runN_5_1 : isT (rowRunN 5 1) = 1 := by kernel_rfl
theorem runN_6_1 : isT (rowRunN 6 1) = 1 := by kernel_rfl
theorem runN_7_1 : isT (rowRunN 7 1) = 1 := by kernel_rfl
theorem runN_8_1 : isT (rowRunN 8 1) = 1 := by kernel_rfl
theorem runN_9_1 : isT (rowRunN 9 1) = 1 := by kernel_rfl
theorem runN_all_1 : ∀ n, n < 10 → isT (rowRunN n 1) = 1 := by
  intro n hn
  have h : n = 0 ∨ n = 1 ∨ n = 2 ∨ n = 3 ∨ n = 4 ∨ n = 5 ∨ n = 6 ∨ n = 7 ∨ n = 8 ∨ n = 9 := by omega
  rcases h with rfl | rfl | rfl | rfl | rfl | rfl | rfl | rfl | rfl | rfl
  · exact runN_0_1
  · exact runN_1_1
  · exact runN_2_1
  · exact runN_3_1
  · exact runN_4_1
  · exact runN_5_1
  · exact runN_6_1
  · exact runN_7_1
  · exact runN_8_1
  · exact runN_9_1
end Go.Am
