/-
  DERIVED. GIVEN WITH THE SEED: THE CARDS: each row of YtcgejflifhjajaaGreatDoorRows.lean that lists a variable, with what it lists TIED to the program's text (the seventh form; the later family's looks); each row that meets fmt, with fmt's text TOLD by the authors' own Lean function (tested against real Go, not proved from fmt's source: count such statements apart). THE CARD IS WHAT COUNTS. Prove the row's statement (the work); the ties are given (YtcgejflifhjajaaGreatDoorTie.lean); close each card by the builder's one call (the guide's Derived/Test/ToyasCard.lean, 'card_holds'). Laid BY PROGRAM, IN A SANDBOX (cutbox-door.mjs). By AI agents, Wed Nov 11 2026. No macro, syntax, notation, axiom, sorry.
-/
import Derived.Test.YtcgejflifhjajaaGreatDoorRows
import GoSem.ClaimSeven
namespace Go.Proofs.YtcgejflifhjajaaGreatDoor
namespace Rows

/-- THE TIED CARD OF 'arbourlaw22.MasonReopens'. -/
def masonReopensCard : Claim7 := { stood := { row := masonReopensRow, standIns := [], harness := (true, "ea6efbe136508f70f338b616912bef9b8b20b677af253cee96e8ac4db7c2d16f"), looks := false }, kinds := [], alts := [], laidByText := true, laidKinds := [.data, .pinned], laidTests := true, laidLooks := .later }
def MasonReopensCardSaid : Prop := Claim7.holds Tryz.pinned (.plain (OpenSpec.ofChange masonReopensSpec)) masonReopensCard

/-- THE TIED CARD OF 'arbourlaw22.MasonQuirks'. -/
def masonQuirksCard : Claim7 := { stood := { row := masonQuirksRow, standIns := [], harness := (true, "ea6efbe136508f70f338b616912bef9b8b20b677af253cee96e8ac4db7c2d16f"), looks := false }, kinds := [], alts := [], laidByText := true, laidKinds := [.data, .pinned], laidTests := true, laidLooks := .later }
def MasonQuirksCardSaid : Prop := Claim7.holds Tryz.pinned (.plain (OpenSpec.ofChange masonQuirksSpec)) masonQuirksCard

/-- THE TIED CARD OF 'arbourlaw22.MasonAttrs'. -/
def masonAttrsCard : Claim7 := { stood := { row := masonAttrsRow, standIns := [], harness := (true, "ea6efbe136508f70f338b616912bef9b8b20b677af253cee96e8ac4db7c2d16f"), looks := false }, kinds := [], alts := [], laidByText := true, laidKinds := [.data, .pinned], laidTests := true, laidLooks := .later }
def MasonAttrsCardSaid : Prop := Claim7.holds Tryz.pinned (.plain (OpenSpec.ofChange masonAttrsSpec)) masonAttrsCard

/-- THE TIED CARD OF 'arbourlaw22.MasonNumbers'. -/
def masonNumbersCard : Claim7 := { stood := { row := masonNumbersRow, standIns := [], harness := (true, "ea6efbe136508f70f338b616912bef9b8b20b677af253cee96e8ac4db7c2d16f"), looks := false }, kinds := [], alts := [], laidByText := true, laidKinds := [.data, .pinned], laidTests := true, laidLooks := .later }
def MasonNumbersCardSaid : Prop := Claim7.holds Tryz.pinned (.plain (OpenSpec.ofChange masonNumbersSpec)) masonNumbersCard

/-- THE SECOND FORM's CARD OF 'arbourlaw22.MasonReopens'. -/
def masonReopensUptoCard : Claim7 := { stood := { row := masonReopensUptoRow, standIns := [], harness := (true, "ea6efbe136508f70f338b616912bef9b8b20b677af253cee96e8ac4db7c2d16f"), looks := false }, kinds := [], alts := [], laidByText := true, laidKinds := [.data, .pinned], laidTests := true, laidLooks := .later }
def MasonReopensUptoCardSaid : Prop := Claim7.holds Tryz.pinned (.plain (OpenSpec.upto masonReopensSpec)) masonReopensUptoCard

/-- THE SECOND FORM's CARD OF 'arbourlaw22.MasonQuirks'. -/
def masonQuirksUptoCard : Claim7 := { stood := { row := masonQuirksUptoRow, standIns := [], harness := (true, "ea6efbe136508f70f338b616912bef9b8b20b677af253cee96e8ac4db7c2d16f"), looks := false }, kinds := [], alts := [], laidByText := true, laidKinds := [.data, .pinned], laidTests := true, laidLooks := .later }
def MasonQuirksUptoCardSaid : Prop := Claim7.holds Tryz.pinned (.plain (OpenSpec.upto masonQuirksSpec)) masonQuirksUptoCard

/-- THE SECOND FORM's CARD OF 'arbourlaw22.MasonAttrs'. -/
def masonAttrsUptoCard : Claim7 := { stood := { row := masonAttrsUptoRow, standIns := [], harness := (true, "ea6efbe136508f70f338b616912bef9b8b20b677af253cee96e8ac4db7c2d16f"), looks := false }, kinds := [], alts := [], laidByText := true, laidKinds := [.data, .pinned], laidTests := true, laidLooks := .later }
def MasonAttrsUptoCardSaid : Prop := Claim7.holds Tryz.pinned (.plain (OpenSpec.upto masonAttrsSpec)) masonAttrsUptoCard

/-- THE SECOND FORM's CARD OF 'arbourlaw22.MasonNumbers'. -/
def masonNumbersUptoCard : Claim7 := { stood := { row := masonNumbersUptoRow, standIns := [], harness := (true, "ea6efbe136508f70f338b616912bef9b8b20b677af253cee96e8ac4db7c2d16f"), looks := false }, kinds := [], alts := [], laidByText := true, laidKinds := [.data, .pinned], laidTests := true, laidLooks := .later }
def MasonNumbersUptoCardSaid : Prop := Claim7.holds Tryz.pinned (.plain (OpenSpec.upto masonNumbersSpec)) masonNumbersUptoCard
end Rows
end Go.Proofs.YtcgejflifhjajaaGreatDoor
