/- Parts of an abstract machine and its proofs: MaT. -/
import Derived.Test.YtcgejflifhjajaaGreatDoorAmF2
import Derived.Test.YtcgejflifhjajaaGreatDoorMaB
import Derived.Test.YtcgejflifhjajaaGreatDoorMaW

set_option linter.unusedSimpArgs false
set_option linter.unusedVariables false
namespace Go.Am
open Go.Fm
open Go (IntKind)
def cd (n : Nat) : Option (Nat × FFun) := cond (Nat.ble n 494) (Ma.code n) none
def fnsM : Fns := fun n => match n with
  | 7 => some (.code c_arbourlaw22_word)
  | 8 => some (.code c_arbourbook_Within)
  | 20 => some (.code c_arbourkeep_Head)
  | 228 => some (.spec sIdx)
  | 363 => some (.spec sIdxB)
  | 225 => some (.spec sCnt)
  | 106 => some (.spec sStr)
  | 146 => some (.spec (sBW 199 5))
  | 148 => some (.spec (sBS 199 5))
  | 118 => some (.spec (sDel 2))
  | 367 => some (.spec (sDel 4))
  | 412 => some (.spec (sDel 4))
  | 455 => some (.spec (sIns 4))
  | 456 => some (.spec (sIns 4))
  | 33 => some (.spec (sCl 2))
  | 369 => some (.spec (sCl 4))
  | n => match cd n with
    | some c => some (.code (trF c.2))
    | none => none
noncomputable def TK (n : Nat) : Option FFn := match n with
  | 7 => none
  | 8 => none
  | 20 => none
  | 228 => some (.spec fIdx)
  | 363 => some (.spec fIdxB)
  | 225 => some (.spec fCnt)
  | 106 => some (.spec fStr)
  | 146 => some (.spec (fBW 199 5))
  | 148 => some (.spec (fBS 199 5))
  | 118 => some (.spec (fDel 2))
  | 367 => some (.spec (fDel 4))
  | 412 => some (.spec (fDel 4))
  | 455 => some (.spec (fIns 4))
  | 456 => some (.spec (fIns 4))
  | 33 => some (.spec (fCl 2))
  | 369 => some (.spec (fCl 4))
  | n => match cd n with
    | some c => some (.code c.1 c.2)
    | none => none
noncomputable def pWord (w : List FB) (args : List FV) (K : FV → R) : R := match args with
  | [.opq 0] => K (.str w)
  | _ => none
noncomputable def pKnown (args : List FV) (K : FV → R) : R := match args with
  | [] => K (.bool true)
  | _ => none
noncomputable def isT : R → Nat
  | some (.bool true, _) => 1
  | _ => 0
theorem isT_some {r : R} (h : isT r = 1) : ∃ fh, r = some (.bool true, fh) := by
  unfold isT at h
  split at h
  · exact ⟨_, rfl⟩
  · cases h
noncomputable def wF (n : Nat) : List FB := .lit 119 :: Nat.rec (motive := fun _ => Nat → List FB) (fun _ => []) (fun _ ih i => .sym i :: ih (Nat.succ i)) n 0
noncomputable def knownRun : R := Go.Fm.callF TK 60 0 .emp (fun v h => some (v, h)) .wr 11 []
end Go.Am
