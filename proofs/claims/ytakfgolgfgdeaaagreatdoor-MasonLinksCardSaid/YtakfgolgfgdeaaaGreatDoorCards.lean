/-
  DERIVED. GIVEN WITH THE SEED: THE CARDS: each row of YtakfgolgfgdeaaaGreatDoorRows.lean that lists a variable, with what it lists TIED to the program's text (the seventh form; the later family's looks); each row that meets fmt, with fmt's text TOLD by the authors' own Lean function (tested against real Go, not proved from fmt's source: count such statements apart). THE CARD IS WHAT COUNTS. Prove the row's statement (the work); the ties are given (YtakfgolgfgdeaaaGreatDoorTie.lean); close each card by the builder's one call (the guide's Derived/Test/ToyasCard.lean, 'card_holds'). Laid BY PROGRAM, IN A SANDBOX (cutbox-door.mjs). By AI agents, Wed Nov 11 2026. No macro, syntax, notation, axiom, sorry.
-/
import Derived.Test.YtakfgolgfgdeaaaGreatDoorRows
import GoSem.ClaimSeven
namespace Go.Proofs.YtakfgolgfgdeaaaGreatDoor
namespace Rows

/-- THE TIED CARD OF 'arbourlaw22.MasonReopens'. -/
def masonReopensCard : Claim7 := { stood := { row := masonReopensRow, standIns := [], harness := (true, "69207b71f270f6e004baede40bc2a757e5501e00935df98c05ff6c95e5762f7c"), looks := false }, kinds := [], alts := [], laidByText := true, laidKinds := [.data, .pinned], laidTests := true, laidLooks := .later }
def MasonReopensCardSaid : Prop := Claim7.holds Tryz.pinned (.plain (OpenSpec.ofChange masonReopensSpec)) masonReopensCard

/-- THE TIED CARD OF 'arbourlaw22.MasonTemplates'. -/
def masonTemplatesCard : Claim7 := { stood := { row := masonTemplatesRow, standIns := [], harness := (true, "69207b71f270f6e004baede40bc2a757e5501e00935df98c05ff6c95e5762f7c"), looks := false }, kinds := [], alts := [], laidByText := true, laidKinds := [.data, .pinned], laidTests := true, laidLooks := .later }
def MasonTemplatesCardSaid : Prop := Claim7.holds Tryz.pinned (.plain (OpenSpec.ofChange masonTemplatesSpec)) masonTemplatesCard

/-- THE TIED CARD OF 'arbourlaw22.MasonForeign'. -/
def masonForeignCard : Claim7 := { stood := { row := masonForeignRow, standIns := [], harness := (true, "69207b71f270f6e004baede40bc2a757e5501e00935df98c05ff6c95e5762f7c"), looks := false }, kinds := [], alts := [], laidByText := true, laidKinds := [.data, .pinned], laidTests := true, laidLooks := .later }
def MasonForeignCardSaid : Prop := Claim7.holds Tryz.pinned (.plain (OpenSpec.ofChange masonForeignSpec)) masonForeignCard

/-- THE TIED CARD OF 'arbourlaw22.MasonLinks'. -/
def masonLinksCard : Claim7 := { stood := { row := masonLinksRow, standIns := [], harness := (true, "69207b71f270f6e004baede40bc2a757e5501e00935df98c05ff6c95e5762f7c"), looks := false }, kinds := [], alts := [], laidByText := true, laidKinds := [.data, .pinned], laidTests := true, laidLooks := .later }
def MasonLinksCardSaid : Prop := Claim7.holds Tryz.pinned (.plain (OpenSpec.ofChange masonLinksSpec)) masonLinksCard

/-- THE TIED CARD OF 'arbourlaw22.MasonLines'. -/
def masonLinesCard : Claim7 := { stood := { row := masonLinesRow, standIns := [], harness := (true, "69207b71f270f6e004baede40bc2a757e5501e00935df98c05ff6c95e5762f7c"), looks := false }, kinds := [], alts := [], laidByText := true, laidKinds := [.data, .pinned], laidTests := true, laidLooks := .later }
def MasonLinesCardSaid : Prop := Claim7.holds Tryz.pinned (.plain (OpenSpec.ofChange masonLinesSpec)) masonLinesCard

/-- THE TIED CARD OF 'arbourlaw22.MasonButtons'. -/
def masonButtonsCard : Claim7 := { stood := { row := masonButtonsRow, standIns := [], harness := (true, "69207b71f270f6e004baede40bc2a757e5501e00935df98c05ff6c95e5762f7c"), looks := false }, kinds := [], alts := [], laidByText := true, laidKinds := [.data, .pinned], laidTests := true, laidLooks := .later }
def MasonButtonsCardSaid : Prop := Claim7.holds Tryz.pinned (.plain (OpenSpec.ofChange masonButtonsSpec)) masonButtonsCard

/-- THE TIED CARD OF 'arbourlaw22.MasonCells'. -/
def masonCellsCard : Claim7 := { stood := { row := masonCellsRow, standIns := [], harness := (true, "69207b71f270f6e004baede40bc2a757e5501e00935df98c05ff6c95e5762f7c"), looks := false }, kinds := [], alts := [], laidByText := true, laidKinds := [.data, .pinned], laidTests := true, laidLooks := .later }
def MasonCellsCardSaid : Prop := Claim7.holds Tryz.pinned (.plain (OpenSpec.ofChange masonCellsSpec)) masonCellsCard

/-- THE SECOND FORM's CARD OF 'arbourlaw22.MasonReopens'. -/
def masonReopensUptoCard : Claim7 := { stood := { row := masonReopensUptoRow, standIns := [], harness := (true, "69207b71f270f6e004baede40bc2a757e5501e00935df98c05ff6c95e5762f7c"), looks := false }, kinds := [], alts := [], laidByText := true, laidKinds := [.data, .pinned], laidTests := true, laidLooks := .later }
def MasonReopensUptoCardSaid : Prop := Claim7.holds Tryz.pinned (.plain (OpenSpec.upto masonReopensSpec)) masonReopensUptoCard

/-- THE SECOND FORM's CARD OF 'arbourlaw22.MasonTemplates'. -/
def masonTemplatesUptoCard : Claim7 := { stood := { row := masonTemplatesUptoRow, standIns := [], harness := (true, "69207b71f270f6e004baede40bc2a757e5501e00935df98c05ff6c95e5762f7c"), looks := false }, kinds := [], alts := [], laidByText := true, laidKinds := [.data, .pinned], laidTests := true, laidLooks := .later }
def MasonTemplatesUptoCardSaid : Prop := Claim7.holds Tryz.pinned (.plain (OpenSpec.upto masonTemplatesSpec)) masonTemplatesUptoCard

/-- THE SECOND FORM's CARD OF 'arbourlaw22.MasonForeign'. -/
def masonForeignUptoCard : Claim7 := { stood := { row := masonForeignUptoRow, standIns := [], harness := (true, "69207b71f270f6e004baede40bc2a757e5501e00935df98c05ff6c95e5762f7c"), looks := false }, kinds := [], alts := [], laidByText := true, laidKinds := [.data, .pinned], laidTests := true, laidLooks := .later }
def MasonForeignUptoCardSaid : Prop := Claim7.holds Tryz.pinned (.plain (OpenSpec.upto masonForeignSpec)) masonForeignUptoCard

/-- THE SECOND FORM's CARD OF 'arbourlaw22.MasonLinks'. -/
def masonLinksUptoCard : Claim7 := { stood := { row := masonLinksUptoRow, standIns := [], harness := (true, "69207b71f270f6e004baede40bc2a757e5501e00935df98c05ff6c95e5762f7c"), looks := false }, kinds := [], alts := [], laidByText := true, laidKinds := [.data, .pinned], laidTests := true, laidLooks := .later }
def MasonLinksUptoCardSaid : Prop := Claim7.holds Tryz.pinned (.plain (OpenSpec.upto masonLinksSpec)) masonLinksUptoCard

/-- THE SECOND FORM's CARD OF 'arbourlaw22.MasonLines'. -/
def masonLinesUptoCard : Claim7 := { stood := { row := masonLinesUptoRow, standIns := [], harness := (true, "69207b71f270f6e004baede40bc2a757e5501e00935df98c05ff6c95e5762f7c"), looks := false }, kinds := [], alts := [], laidByText := true, laidKinds := [.data, .pinned], laidTests := true, laidLooks := .later }
def MasonLinesUptoCardSaid : Prop := Claim7.holds Tryz.pinned (.plain (OpenSpec.upto masonLinesSpec)) masonLinesUptoCard

/-- THE SECOND FORM's CARD OF 'arbourlaw22.MasonButtons'. -/
def masonButtonsUptoCard : Claim7 := { stood := { row := masonButtonsUptoRow, standIns := [], harness := (true, "69207b71f270f6e004baede40bc2a757e5501e00935df98c05ff6c95e5762f7c"), looks := false }, kinds := [], alts := [], laidByText := true, laidKinds := [.data, .pinned], laidTests := true, laidLooks := .later }
def MasonButtonsUptoCardSaid : Prop := Claim7.holds Tryz.pinned (.plain (OpenSpec.upto masonButtonsSpec)) masonButtonsUptoCard

/-- THE SECOND FORM's CARD OF 'arbourlaw22.MasonCells'. -/
def masonCellsUptoCard : Claim7 := { stood := { row := masonCellsUptoRow, standIns := [], harness := (true, "69207b71f270f6e004baede40bc2a757e5501e00935df98c05ff6c95e5762f7c"), looks := false }, kinds := [], alts := [], laidByText := true, laidKinds := [.data, .pinned], laidTests := true, laidLooks := .later }
def MasonCellsUptoCardSaid : Prop := Claim7.holds Tryz.pinned (.plain (OpenSpec.upto masonCellsSpec)) masonCellsUptoCard
end Rows
end Go.Proofs.YtakfgolgfgdeaaaGreatDoor
