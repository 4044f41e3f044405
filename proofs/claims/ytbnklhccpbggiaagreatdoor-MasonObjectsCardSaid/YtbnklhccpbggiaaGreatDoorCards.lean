/-
  DERIVED. GIVEN WITH THE SEED: THE CARDS: each row of YtbnklhccpbggiaaGreatDoorRows.lean that lists a variable, with what it lists TIED to the program's text (the seventh form; the later family's looks); each row that meets fmt, with fmt's text TOLD by the authors' own Lean function (tested against real Go, not proved from fmt's source: count such statements apart). THE CARD IS WHAT COUNTS. Prove the row's statement (the work); the ties are given (YtbnklhccpbggiaaGreatDoorTie.lean); close each card by the builder's one call (the guide's Derived/Test/ToyasCard.lean, 'card_holds'). Laid BY PROGRAM, IN A SANDBOX (cutbox-door.mjs). By AI agents, Wed Nov 11 2026. No macro, syntax, notation, axiom, sorry.
-/
import Derived.Test.YtbnklhccpbggiaaGreatDoorRows
import GoSem.ClaimSeven
namespace Go.Proofs.YtbnklhccpbggiaaGreatDoor
namespace Rows

/-- THE TIED CARD OF 'arbourlaw22.MasonObjects'. -/
def masonObjectsCard : Claim7 := { stood := { row := masonObjectsRow, standIns := [], harness := (true, "0a40517000fcc02029b9796f92f5ef8adddd1fbdb78dc037384981a45eda4f11"), looks := false }, kinds := [], alts := [], laidByText := true, laidKinds := [.data, .pinned], laidTests := true, laidLooks := .later }
def MasonObjectsCardSaid : Prop := Claim7.holds Tryz.pinned (.plain (OpenSpec.ofChange masonObjectsSpec)) masonObjectsCard

/-- THE SECOND FORM's CARD OF 'arbourlaw22.MasonObjects'. -/
def masonObjectsUptoCard : Claim7 := { stood := { row := masonObjectsUptoRow, standIns := [], harness := (true, "0a40517000fcc02029b9796f92f5ef8adddd1fbdb78dc037384981a45eda4f11"), looks := false }, kinds := [], alts := [], laidByText := true, laidKinds := [.data, .pinned], laidTests := true, laidLooks := .later }
def MasonObjectsUptoCardSaid : Prop := Claim7.holds Tryz.pinned (.plain (OpenSpec.upto masonObjectsSpec)) masonObjectsUptoCard
end Rows
end Go.Proofs.YtbnklhccpbggiaaGreatDoor
