/- Parts of an abstract machine and its proofs: QuT. -/
import Derived.Test.YtcgejflifhjajaaGreatDoorMaT

set_option linter.unusedSimpArgs false
set_option linter.unusedVariables false
namespace Go.Am
open Go.Fm
open Go (IntKind)
noncomputable def pWordsE (w : List FB) (args : List FV) (K : FV → R) : R := match args with
  | [.opq 0] => K (.str w)
  | [.opq 3145728] => K (.opq 2001)
  | _ => none
noncomputable def TNE (w : List FB) (n : Nat) : Option FFn := match n with
  | 7 => some (.pure (pWordsE w))
  | 11 => some (.pure pKnown)
  | n => TK n
noncomputable def pWordsO (w x : List FB) (args : List FV) (K : FV → R) : R := match args with
  | [.opq 0] => K (.str w)
  | [.opq 3145729] => K (.str x)
  | _ => none
noncomputable def TNO (w x : List FB) (n : Nat) : Option FFn := match n with
  | 7 => some (.pure (pWordsO w x))
  | 11 => some (.pure pKnown)
  | n => TK n
noncomputable def wG (n : Nat) : List FB := .lit 119 :: Nat.rec (motive := fun _ => Nat → List FB) (fun _ => []) (fun _ ih i => .sym i :: ih (Nat.succ i)) n 10
theorem lt10 (P : Nat → Prop) (h0 : P 0) (h1 : P 1) (h2 : P 2) (h3 : P 3) (h4 : P 4) (h5 : P 5) (h6 : P 6) (h7 : P 7) (h8 : P 8) (h9 : P 9) : ∀ n, n < 10 → P n := by
  intro n hn
  have h : n = 0 ∨ n = 1 ∨ n = 2 ∨ n = 3 ∨ n = 4 ∨ n = 5 ∨ n = 6 ∨ n = 7 ∨ n = 8 ∨ n = 9 := by omega
  rcases h with rfl | rfl | rfl | rfl | rfl | rfl | rfl | rfl | rfl | rfl <;> assumption
noncomputable def rowRunE (n : Nat) (b1 : Bool) : R := Go.Fm.callF (TNE (wF n)) 60 0 .emp (fun v h => some (v, h)) .wr 4 [.opq 3145728, .opq 0, .bool b1]
noncomputable def rowRunO (n : Nat) (x : List FB) (b1 : Bool) : R := Go.Fm.callF (TNO (wF n) x) 60 0 .emp (fun v h => some (v, h)) .wr 4 [.opq 3145729, .opq 0, .bool b1]
end Go.Am
