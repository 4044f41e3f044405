/-
  DERIVED. GIVEN WITH THE SEED: THE CARDS: each row of YtnfcebbbbhnpiaaGreatDoorRows.lean that lists a variable, with what it lists TIED to the program's text (the seventh form; the later family's looks); each row that meets fmt, with fmt's text TOLD by the authors' own Lean function (tested against real Go, not proved from fmt's source: count such statements apart). THE CARD IS WHAT COUNTS. Prove the row's statement (the work); the ties are given (YtnfcebbbbhnpiaaGreatDoorTie.lean); close each card by the builder's one call (the guide's Derived/Test/ToyasCard.lean, 'card_holds'). Laid BY PROGRAM, IN A SANDBOX (cutbox-door.mjs). By AI agents, Wed Nov 11 2026. No macro, syntax, notation, axiom, sorry.
-/
import Derived.Test.YtnfcebbbbhnpiaaGreatDoorRows
import GoSem.ClaimSeven
namespace Go.Proofs.YtnfcebbbbhnpiaaGreatDoor
namespace Rows

/-- THE TIED CARD OF 'arbourlaw22.MasonAdopts'. -/
def masonAdoptsCard : Claim7 := { stood := { row := masonAdoptsRow, standIns := [], harness := (true, "a03f160c849072a717786803f3cf3521d238cb31bb2553fa307e9139b50f0706"), looks := false }, kinds := [], alts := [], laidByText := true, laidKinds := [.data, .pinned], laidTests := true, laidLooks := .later }
def MasonAdoptsCardSaid : Prop := Claim7.holds Tryz.pinned (.plain (OpenSpec.ofChange masonAdoptsSpec)) masonAdoptsCard

/-- THE SECOND FORM's CARD OF 'arbourlaw22.MasonAdopts'. -/
def masonAdoptsUptoCard : Claim7 := { stood := { row := masonAdoptsUptoRow, standIns := [], harness := (true, "a03f160c849072a717786803f3cf3521d238cb31bb2553fa307e9139b50f0706"), looks := false }, kinds := [], alts := [], laidByText := true, laidKinds := [.data, .pinned], laidTests := true, laidLooks := .later }
def MasonAdoptsUptoCardSaid : Prop := Claim7.holds Tryz.pinned (.plain (OpenSpec.upto masonAdoptsSpec)) masonAdoptsUptoCard
end Rows
end Go.Proofs.YtnfcebbbbhnpiaaGreatDoor
