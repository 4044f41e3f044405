/- Parts of an abstract machine and its proofs: ReT. -/
import Derived.Test.YtcgejflifhjajaaGreatDoorMaT

set_option linter.unusedSimpArgs false
set_option linter.unusedVariables false
namespace Go.Am
open Go.Fm
open Go (IntKind)
noncomputable def pWiN (i j : Nat) (args : List FV) (K : FV → R) : R := match args with
  | [.int .i64 (.num 5000), .int .i64 (.lit (.ofNat 0)), .int .i64 (.lit (.ofNat 5))] => K (.int .i64 (.lit (Int.ofNat i)))
  | [.int .i64 (.num 5001), .int .i64 (.lit (.ofNat 0)), .int .i64 (.lit (.ofNat 4))] => K (.int .i64 (.lit (Int.ofNat j)))
  | _ => none
noncomputable def TN (w : List FB) (i j : Nat) (n : Nat) : Option FFn := match n with
  | 7 => some (.pure (pWord w))
  | 8 => some (.pure (pWiN i j))
  | 11 => some (.pure pKnown)
  | n => TK n
theorem lt10 (P : Nat → Prop) (h0 : P 0) (h1 : P 1) (h2 : P 2) (h3 : P 3) (h4 : P 4) (h5 : P 5) (h6 : P 6) (h7 : P 7) (h8 : P 8) (h9 : P 9) : ∀ n, n < 10 → P n := by
  intro n hn
  have h : n = 0 ∨ n = 1 ∨ n = 2 ∨ n = 3 ∨ n = 4 ∨ n = 5 ∨ n = 6 ∨ n = 7 ∨ n = 8 ∨ n = 9 := by omega
  rcases h with rfl | rfl | rfl | rfl | rfl | rfl | rfl | rfl | rfl | rfl <;> assumption
noncomputable def rowRunN (n i j : Nat) : R := Go.Fm.callF (TN (wF n) i j) 60 0 .emp (fun v h => some (v, h)) .wr 3 [.int .i64 (.num 5000), .int .i64 (.num 5001), .opq 0]
end Go.Am
