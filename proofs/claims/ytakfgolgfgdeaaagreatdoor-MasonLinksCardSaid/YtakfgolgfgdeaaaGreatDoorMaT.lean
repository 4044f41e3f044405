/- Parts of an abstract machine and its proofs: MaT. -/
import Derived.Test.YtakfgolgfgdeaaaGreatDoorAmF2
import Derived.Test.YtakfgolgfgdeaaaGreatDoorMaB
import Derived.Test.YtakfgolgfgdeaaaGreatDoorMaW

set_option linter.unusedSimpArgs false
set_option linter.unusedVariables false
namespace Go.Am
open Go.Fm
open Go (IntKind)
def cd (n : Nat) : Option (Nat × FFun) := cond (Nat.ble n 490) (Ma.code n) none
def fnsM : Fns := fun n => match n with
  | 10 => some (.code c_arbourlaw22_word)
  | 11 => some (.code c_arbourbook_Within)
  | 15 => some (.code c_arbourkeep_Head)
  | 182 => some (.spec sIdx)
  | 339 => some (.spec sIdxB)
  | 179 => some (.spec sCnt)
  | 79 => some (.spec sStr)
  | 110 => some (.spec (sBW 167 5))
  | 112 => some (.spec (sBS 167 5))
  | 91 => some (.spec (sDel 2))
  | 345 => some (.spec (sDel 4))
  | 403 => some (.spec (sDel 4))
  | 449 => some (.spec (sIns 4))
  | 450 => some (.spec (sIns 4))
  | 42 => some (.spec (sCl 2))
  | 347 => some (.spec (sCl 4))
  | n => match cd n with
    | some c => some (.code (trF c.2))
    | none => none
noncomputable def TK (n : Nat) : Option FFn := match n with
  | 10 => none
  | 11 => none
  | 15 => none
  | 182 => some (.spec fIdx)
  | 339 => some (.spec fIdxB)
  | 179 => some (.spec fCnt)
  | 79 => some (.spec fStr)
  | 110 => some (.spec (fBW 167 5))
  | 112 => some (.spec (fBS 167 5))
  | 91 => some (.spec (fDel 2))
  | 345 => some (.spec (fDel 4))
  | 403 => some (.spec (fDel 4))
  | 449 => some (.spec (fIns 4))
  | 450 => some (.spec (fIns 4))
  | 42 => some (.spec (fCl 2))
  | 347 => some (.spec (fCl 4))
  | n => match cd n with
    | some c => some (.code c.1 c.2)
    | none => none
noncomputable def pWord (w : List FB) (args : List FV) (K : FV → R) : R := match args with
  | [.opq 0] => K (.str w)
  | _ => none
noncomputable def pKnown (args : List FV) (K : FV → R) : R := match args with
  | [] => K (.bool true)
  | _ => none
noncomputable def isT : R → Nat
  | some (.bool true, _) => 1
  | _ => 0
theorem isT_some {r : R} (h : isT r = 1) : ∃ fh, r = some (.bool true, fh) := by
  unfold isT at h
  split at h
  · exact ⟨_, rfl⟩
  · cases h
noncomputable def wF (n : Nat) : List FB := .lit 119 :: Nat.rec (motive := fun _ => Nat → List FB) (fun _ => []) (fun _ ih i => .sym i :: ih (Nat.succ i)) n 0
noncomputable def knownRun : R := Go.Fm.callF TK 60 0 .emp (fun v h => some (v, h)) .wr 14 []
end Go.Am
