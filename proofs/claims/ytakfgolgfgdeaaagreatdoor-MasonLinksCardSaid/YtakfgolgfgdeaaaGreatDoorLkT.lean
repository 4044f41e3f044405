/- Parts of an abstract machine and its proofs: LkT. -/
import Derived.Test.YtakfgolgfgdeaaaGreatDoorMaT

set_option linter.unusedSimpArgs false
set_option linter.unusedVariables false
namespace Go.Am
open Go.Fm
open Go (IntKind)
noncomputable def pWiN (i : Nat) (args : List FV) (K : FV → R) : R := match args with
  | [.int .i64 (.num 5000), .int .i64 (.lit (.ofNat 0)), .int .i64 (.lit (.ofNat 12))] => K (.int .i64 (.lit (Int.ofNat i)))
  | _ => none
noncomputable def TN (w : List FB) (i : Nat) (n : Nat) : Option FFn := match n with
  | 10 => some (.pure (pWord w))
  | 11 => some (.pure (pWiN i))
  | 14 => some (.pure pKnown)
  | n => TK n
theorem lt10 (P : Nat → Prop) (h0 : P 0) (h1 : P 1) (h2 : P 2) (h3 : P 3) (h4 : P 4) (h5 : P 5) (h6 : P 6) (h7 : P 7) (h8 : P 8) (h9 : P 9) : ∀ n, n < 10 → P n := by
  intro n hn
  have h : n = 0 ∨ n = 1 ∨ n = 2 ∨ n = 3 ∨ n = 4 ∨ n = 5 ∨ n = 6 ∨ n = 7 ∨ n = 8 ∨ n = 9 := by omega
  rcases h with rfl | rfl | rfl | rfl | rfl | rfl | rfl | rfl | rfl | rfl <;> assumption
noncomputable def rowRunN (n i : Nat) : R := Go.Fm.callF (TN (wF n) i) 60 0 .emp (fun v h => some (v, h)) .wr 6 [.int .i64 (.num 5000), .opq 0]
end Go.Am
