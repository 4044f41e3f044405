/- Parts of an abstract machine and its proofs: MaT. -/
import Derived.Test.YtbnklhccpbggiaaGreatDoorAmF2
import Derived.Test.YtbnklhccpbggiaaGreatDoorMaB
import Derived.Test.YtbnklhccpbggiaaGreatDoorMaW

set_option linter.unusedSimpArgs false
set_option linter.unusedVariables false
/- The tables of functions of the Mason rows in both machines. -/
namespace Go.Am
open Go.Fm
open Go (IntKind)
/-- The codes. -/
def cd (n : Nat) : Option (Nat × FFun) := cond (Nat.ble n 484) (Ma.code n) none
def fnsM : Fns := fun n => match n with
  | 4 => some (.code c_arbourlaw22_word)
  | 5 => some (.code c_arbourbook_Within)
  | 9 => some (.code c_arbourkeep_Head)
  | 176 => some (.spec sIdx)
  | 333 => some (.spec sIdxB)
  | 173 => some (.spec sCnt)
  | 73 => some (.spec sStr)
  | 104 => some (.spec (sBW 166 5))
  | 106 => some (.spec (sBS 166 5))
  | 85 => some (.spec (sDel 2))
  | 339 => some (.spec (sDel 4))
  | 397 => some (.spec (sDel 4))
  | 443 => some (.spec (sIns 4))
  | 444 => some (.spec (sIns 4))
  | 36 => some (.spec (sCl 2))
  | 341 => some (.spec (sCl 4))
  | n => match cd n with
    | some c => some (.code (trF c.2))
    | none => none
/-- The third machine's table. -/
noncomputable def TK (n : Nat) : Option FFn := match n with
  | 4 => none
  | 5 => none
  | 9 => none
  | 176 => some (.spec fIdx)
  | 333 => some (.spec fIdxB)
  | 173 => some (.spec fCnt)
  | 73 => some (.spec fStr)
  | 104 => some (.spec (fBW 166 5))
  | 106 => some (.spec (fBS 166 5))
  | 85 => some (.spec (fDel 2))
  | 339 => some (.spec (fDel 4))
  | 397 => some (.spec (fDel 4))
  | 443 => some (.spec (fIns 4))
  | 444 => some (.spec (fIns 4))
  | 36 => some (.spec (fCl 2))
  | 341 => some (.spec (fCl 4))
  | n => match cd n with
    | some c => some (.code c.1 c.2)
    | none => none
/-- What word, Within and known answer, where the word is w and the number's rest is i. -/
noncomputable def pWord (w : List FB) (args : List FV) (K : FV → R) : R := match args with
  | [.opq 0] => K (.str w)
  | _ => none
noncomputable def pWi (i : Nat) (args : List FV) (K : FV → R) : R := match args with
  | [.int .i64 (.num 1), .int .i64 (.lit (.ofNat 0)), .int .i64 (.lit (.ofNat 100))] => K (.int .i64 (.num (Nat.add 7340032 i)))
  | _ => none
noncomputable def pKnown (args : List FV) (K : FV → R) : R := match args with
  | [] => K (.bool true)
  | _ => none
noncomputable def TM (w : List FB) (i : Nat) (n : Nat) : Option FFn := match n with
  | 4 => some (.pure (pWord w))
  | 5 => some (.pure (pWi i))
  | 8 => some (.pure pKnown)
  | n => TK n
noncomputable def isT : R → Nat
  | some (.bool true, _) => 1
  | _ => 0
theorem isT_some {r : R} (h : isT r = 1) : ∃ fh, r = some (.bool true, fh) := by
  unfold isT at h
  split at h
  · exact ⟨_, rfl⟩
  · cases h
/-- A word of n letters behind its first. -/
noncomputable def wF (n : Nat) : List FB := .lit 119 :: Nat.rec (motive := fun _ => Nat → List FB) (fun _ => []) (fun _ ih i => .sym i :: ih (Nat.succ i)) n 0
noncomputable def rowRun (n i : Nat) : R := Go.Fm.callF (TM (wF n) i) 60 0 .emp (fun v h => some (v, h)) .wr 3 [.opq 1, .opq 0]
noncomputable def knownRun : R := Go.Fm.callF TK 60 0 .emp (fun v h => some (v, h)) .wr 8 []
end Go.Am

/- The row MasonObjects: the third machine's table, its runs. -/
namespace Go.Am
open Go.Fm
open Go (IntKind)
noncomputable def pWiN (i : Nat) (args : List FV) (K : FV → R) : R := match args with
  | [.int .i64 (.num 5000), .int .i64 (.lit (.ofNat 0)), .int .i64 (.lit (.ofNat 2))] => K (.int .i64 (.lit (Int.ofNat i)))
  | _ => none
noncomputable def TN (w : List FB) (i : Nat) (n : Nat) : Option FFn := match n with
  | 4 => some (.pure (pWord w))
  | 5 => some (.pure (pWiN i))
  | 8 => some (.pure pKnown)
  | n => TK n
noncomputable def rowRunN (n i : Nat) : R := Go.Fm.callF (TN (wF n) i) 60 0 .emp (fun v h => some (v, h)) .wr 3 [.opq 0, .int .i64 (.num 5000)]
end Go.Am
