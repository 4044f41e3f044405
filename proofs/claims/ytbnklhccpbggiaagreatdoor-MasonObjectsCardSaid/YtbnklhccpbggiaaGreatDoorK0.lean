/- Parts of an abstract machine and its proofs: K0. -/
import Derived.Test.YtbnklhccpbggiaaGreatDoorMaT
import Derived.KernelRfl

set_option linter.unusedSimpArgs false
set_option linter.unusedVariables false
/- The third machine runs the law at case 0, a word of each length: by the kernel. -/
namespace Go.Am
theorem runN_0_0 : isT (rowRunN 0 0) = 1 := by kernel_rfl
theorem runN_1_0 : isT (rowRunN 1 0) = 1 := by kernel_rfl
theorem runN_2_0 : isT (rowRunN 2 0) = 1 := by kernel_rfl
theorem runN_3_0 : isT (rowRunN 3 0) = 1 := by kernel_rfl
theorem runN_4_0 : isT (rowRunN 4 0) = 1 := by kernel_rfl
theorem runN_5_0 : isT (rowRunN 5 0) = 1 := by kernel_rfl
theorem runN_6_0 : isT (rowRunN 6 0) = 1 := by kernel_rfl
theorem runN_7_0 : isT (rowRunN 7 0) = 1 := by kernel_rfl
theorem runN_8_0 : isT (rowRunN 8 0) = 1 := by kernel_rfl
theorem runN_9_0 : isT (rowRunN 9 0) = 1 := by kernel_rfl
theorem runN_all_0 : ∀ n, n < 10 → isT (rowRunN n 0) = 1 := by
  intro n hn
  have h : n = 0 ∨ n = 1 ∨ n = 2 ∨ n = 3 ∨ n = 4 ∨ n = 5 ∨ n = 6 ∨ n = 7 ∨ n = 8 ∨ n = 9 := by omega
  rcases h with rfl | rfl | rfl | rfl | rfl | rfl | rfl | rfl | rfl | rfl
  · exact runN_0_0
  · exact runN_1_0
  · exact runN_2_0
  · exact runN_3_0
  · exact runN_4_0
  · exact runN_5_0
  · exact runN_6_0
  · exact runN_7_0
  · exact runN_8_0
  · exact runN_9_0
end Go.Am
