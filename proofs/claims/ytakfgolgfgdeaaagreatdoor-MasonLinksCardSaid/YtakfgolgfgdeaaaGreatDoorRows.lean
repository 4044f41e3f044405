/-
  NARROWER THAN 'FOR EVERY INPUT', by the rows' own cells (each row's printed sentence says how): MasonReopens: laid · MasonTemplates: laid · MasonForeign: laid · MasonLinks: laid · MasonLines: laid · MasonButtons: laid · MasonCells: laid.
  DERIVED. THE GIVEN ROWS OF THIS SEAT. 7 by the template 'for every input the law returns true; each argument reads behind the call as it read before'; 0 by the template 'total and deterministic' (their statements: YtakfgolgfgdeaaaGreatDoorTotals.lean).
  GIVEN WITH THE SEED: the statements are not yours to turn. If you find one false, say at which input.
  Laid BY PROGRAM, IN A SANDBOX (cutbox-rows.mjs): the forced cells as the released guide's own fill.sh prints them over the translation 4d7f7d86304a7911… (all of the seat's roots in one cut). By AI agents, Wed Nov 11 2026. No macro, syntax, notation, axiom, sorry.
-/
import Derived.Test.YtakfgolgfgdeaaaGreatDoorChecked
import GoSem.PinnedTables
import GoSem.Claim
import GoSem.ClaimJoined
import GoSem.ClaimMapViews
import Derived.JoinedTies
import Derived.KernelRfl
namespace Go.Proofs.YtakfgolgfgdeaaaGreatDoor
/- THE CELL 'sum', in the pinned program and in every row, IS THE sha256 OF THE DUMP (.gsa) THAT YtakfgolgfgdeaaaGreatDoorProg.lean LOADS. Nothing in Lean hashes anything: it is a label: what it is worth is what the hold of that sum in a sandbox is worth. -/
noncomputable def Tryz.pinned : Pinned := { name := "ytakfgolgfgdeaaagreatdoor", sum := "4d7f7d86304a79117c6b5be4c66ed726890bfcaffed4c5674b69bc086fd4179d", checked := Tryz.checked }
namespace Rows
def none {H : Type} : Left H := { results := [], args := [] }

/- WHAT THE LISTED PACKAGE-LEVEL VARIABLES READ AS WHEN THE CALL BEGINS. Each datum BY PROGRAM (the guide's laid-datum.mjs) off the statement by which the dump's own 'gosem.cut.vars' lays the variable. In a bare row this is a premise. The card (YtakfgolgfgdeaaaGreatDoorCards.lean) ties it to the program's text. -/
def laid_unicode_utf8_acceptRanges {H : Type} : DataW H := .agg [.agg [.lit (.int .u8 128), .lit (.int .u8 191)], .agg [.lit (.int .u8 160), .lit (.int .u8 191)], .agg [.lit (.int .u8 128), .lit (.int .u8 159)], .agg [.lit (.int .u8 144), .lit (.int .u8 191)], .agg [.lit (.int .u8 128), .lit (.int .u8 143)], .agg [.lit (.int .u8 0), .lit (.int .u8 0)], .agg [.lit (.int .u8 0), .lit (.int .u8 0)], .agg [.lit (.int .u8 0), .lit (.int .u8 0)], .agg [.lit (.int .u8 0), .lit (.int .u8 0)], .agg [.lit (.int .u8 0), .lit (.int .u8 0)], .agg [.lit (.int .u8 0), .lit (.int .u8 0)], .agg [.lit (.int .u8 0), .lit (.int .u8 0)], .agg [.lit (.int .u8 0), .lit (.int .u8 0)], .agg [.lit (.int .u8 0), .lit (.int .u8 0)], .agg [.lit (.int .u8 0), .lit (.int .u8 0)], .agg [.lit (.int .u8 0), .lit (.int .u8 0)]]
/-- One of Go's own tables, pinned by name: the form's constant. -/
def laid_unicode_utf8_first : DataW Unit := Go.Pinned.utf8First

/-- 'arbourlaw22.MasonReopens': WHATEVER THE INPUT: true; the input reads as it did. -/
def masonReopensSpec : ChangeSpec := { name := "masonReopens", fn := fun _ => fun
  | [d1, d2, d3] => { results := [.lit (.bool true)], args := [d1, d2, d3] }
  | _ => none }
def masonReopensRow : OpenClaim := { program := "ytakfgolgfgdeaaagreatdoor", sum := "4d7f7d86304a79117c6b5be4c66ed726890bfcaffed4c5674b69bc086fd4179d", func := "arbour/arbourlaw22.MasonReopens", spec := "masonReopens", inPlace := ["internal/bytealg.CountString", "internal/bytealg.IndexByteString", "internal/bytealg.IndexString", "internal/abi.NoEscape", "internal/bytealg.MakeNoZero", "slices.overlaps[arbour/active.Entry[int]]", "slices.overlaps[arbour/open.Item[int]]"], unfollowed := true, recurses := true, named := ["unicode/utf8.first", "unicode/utf8.acceptRanges", "internal/bytealg.MaxLen"], apart := false, laid := [("unicode/utf8.acceptRanges", laid_unicode_utf8_acceptRanges), ("unicode/utf8.first", laid_unicode_utf8_first)] }
def MasonReopensSaid : Prop := masonReopensRow.holds Tryz.pinned (OpenSpec.ofChange masonReopensSpec)

/-- ITS FALSE NEIGHBOUR: 'it returns false'. Refute it at one input. -/
def masonReopensWrong : ChangeSpec := { name := "masonReopens", fn := fun _ => fun
  | [d1, d2, d3] => { results := [.lit (.bool false)], args := [d1, d2, d3] }
  | _ => none }
def MasonReopensWrongFalsely : Prop := masonReopensRow.holds Tryz.pinned (OpenSpec.ofChange masonReopensWrong)

/-- 'arbourlaw22.MasonTemplates': WHATEVER THE INPUT: true; the input reads as it did. -/
def masonTemplatesSpec : ChangeSpec := { name := "masonTemplates", fn := fun _ => fun
  | [d1, d2, d3] => { results := [.lit (.bool true)], args := [d1, d2, d3] }
  | _ => none }
def masonTemplatesRow : OpenClaim := { program := "ytakfgolgfgdeaaagreatdoor", sum := "4d7f7d86304a79117c6b5be4c66ed726890bfcaffed4c5674b69bc086fd4179d", func := "arbour/arbourlaw22.MasonTemplates", spec := "masonTemplates", inPlace := ["internal/bytealg.CountString", "internal/bytealg.IndexByteString", "internal/bytealg.IndexString", "internal/abi.NoEscape", "internal/bytealg.MakeNoZero", "slices.overlaps[arbour/active.Entry[int]]", "slices.overlaps[arbour/open.Item[int]]"], unfollowed := true, recurses := true, named := ["unicode/utf8.first", "unicode/utf8.acceptRanges", "internal/bytealg.MaxLen"], apart := false, laid := [("unicode/utf8.acceptRanges", laid_unicode_utf8_acceptRanges), ("unicode/utf8.first", laid_unicode_utf8_first)] }
def MasonTemplatesSaid : Prop := masonTemplatesRow.holds Tryz.pinned (OpenSpec.ofChange masonTemplatesSpec)

/-- ITS FALSE NEIGHBOUR: 'it returns false'. Refute it at one input. -/
def masonTemplatesWrong : ChangeSpec := { name := "masonTemplates", fn := fun _ => fun
  | [d1, d2, d3] => { results := [.lit (.bool false)], args := [d1, d2, d3] }
  | _ => none }
def MasonTemplatesWrongFalsely : Prop := masonTemplatesRow.holds Tryz.pinned (OpenSpec.ofChange masonTemplatesWrong)

/-- 'arbourlaw22.MasonForeign': WHATEVER THE INPUT: true; the input reads as it did. -/
def masonForeignSpec : ChangeSpec := { name := "masonForeign", fn := fun _ => fun
  | [d1, d2, d3] => { results := [.lit (.bool true)], args := [d1, d2, d3] }
  | _ => none }
def masonForeignRow : OpenClaim := { program := "ytakfgolgfgdeaaagreatdoor", sum := "4d7f7d86304a79117c6b5be4c66ed726890bfcaffed4c5674b69bc086fd4179d", func := "arbour/arbourlaw22.MasonForeign", spec := "masonForeign", inPlace := ["internal/bytealg.CountString", "internal/bytealg.IndexByteString", "internal/bytealg.IndexString", "internal/abi.NoEscape", "internal/bytealg.MakeNoZero", "slices.overlaps[arbour/active.Entry[int]]", "slices.overlaps[arbour/open.Item[int]]"], unfollowed := true, recurses := true, named := ["unicode/utf8.first", "unicode/utf8.acceptRanges", "internal/bytealg.MaxLen"], apart := false, laid := [("unicode/utf8.acceptRanges", laid_unicode_utf8_acceptRanges), ("unicode/utf8.first", laid_unicode_utf8_first)] }
def MasonForeignSaid : Prop := masonForeignRow.holds Tryz.pinned (OpenSpec.ofChange masonForeignSpec)

/-- ITS FALSE NEIGHBOUR: 'it returns false'. Refute it at one input. -/
def masonForeignWrong : ChangeSpec := { name := "masonForeign", fn := fun _ => fun
  | [d1, d2, d3] => { results := [.lit (.bool false)], args := [d1, d2, d3] }
  | _ => none }
def MasonForeignWrongFalsely : Prop := masonForeignRow.holds Tryz.pinned (OpenSpec.ofChange masonForeignWrong)

/-- 'arbourlaw22.MasonLinks': WHATEVER THE INPUT: true; the input reads as it did. -/
def masonLinksSpec : ChangeSpec := { name := "masonLinks", fn := fun _ => fun
  | [d1, d2] => { results := [.lit (.bool true)], args := [d1, d2] }
  | _ => none }
def masonLinksRow : OpenClaim := { program := "ytakfgolgfgdeaaagreatdoor", sum := "4d7f7d86304a79117c6b5be4c66ed726890bfcaffed4c5674b69bc086fd4179d", func := "arbour/arbourlaw22.MasonLinks", spec := "masonLinks", inPlace := ["internal/bytealg.CountString", "internal/bytealg.IndexByteString", "internal/bytealg.IndexString", "internal/abi.NoEscape", "internal/bytealg.MakeNoZero", "slices.overlaps[arbour/active.Entry[int]]", "slices.overlaps[arbour/open.Item[int]]"], unfollowed := true, recurses := true, named := ["unicode/utf8.first", "unicode/utf8.acceptRanges", "internal/bytealg.MaxLen"], apart := false, laid := [("unicode/utf8.acceptRanges", laid_unicode_utf8_acceptRanges), ("unicode/utf8.first", laid_unicode_utf8_first)] }
def MasonLinksSaid : Prop := masonLinksRow.holds Tryz.pinned (OpenSpec.ofChange masonLinksSpec)

/-- ITS FALSE NEIGHBOUR: 'it returns false'. Refute it at one input. -/
def masonLinksWrong : ChangeSpec := { name := "masonLinks", fn := fun _ => fun
  | [d1, d2] => { results := [.lit (.bool false)], args := [d1, d2] }
  | _ => none }
def MasonLinksWrongFalsely : Prop := masonLinksRow.holds Tryz.pinned (OpenSpec.ofChange masonLinksWrong)

/-- 'arbourlaw22.MasonLines': WHATEVER THE INPUT: true; the input reads as it did. -/
def masonLinesSpec : ChangeSpec := { name := "masonLines", fn := fun _ => fun
  | [d1, d2] => { results := [.lit (.bool true)], args := [d1, d2] }
  | _ => none }
def masonLinesRow : OpenClaim := { program := "ytakfgolgfgdeaaagreatdoor", sum := "4d7f7d86304a79117c6b5be4c66ed726890bfcaffed4c5674b69bc086fd4179d", func := "arbour/arbourlaw22.MasonLines", spec := "masonLines", inPlace := ["internal/bytealg.CountString", "internal/bytealg.IndexByteString", "internal/bytealg.IndexString", "internal/abi.NoEscape", "internal/bytealg.MakeNoZero", "slices.overlaps[arbour/active.Entry[int]]", "slices.overlaps[arbour/open.Item[int]]"], unfollowed := true, recurses := true, named := ["unicode/utf8.first", "unicode/utf8.acceptRanges", "internal/bytealg.MaxLen"], apart := false, laid := [("unicode/utf8.acceptRanges", laid_unicode_utf8_acceptRanges), ("unicode/utf8.first", laid_unicode_utf8_first)] }
def MasonLinesSaid : Prop := masonLinesRow.holds Tryz.pinned (OpenSpec.ofChange masonLinesSpec)

/-- ITS FALSE NEIGHBOUR: 'it returns false'. Refute it at one input. -/
def masonLinesWrong : ChangeSpec := { name := "masonLines", fn := fun _ => fun
  | [d1, d2] => { results := [.lit (.bool false)], args := [d1, d2] }
  | _ => none }
def MasonLinesWrongFalsely : Prop := masonLinesRow.holds Tryz.pinned (OpenSpec.ofChange masonLinesWrong)

/-- 'arbourlaw22.MasonButtons': WHATEVER THE INPUT: true; the input reads as it did. -/
def masonButtonsSpec : ChangeSpec := { name := "masonButtons", fn := fun _ => fun
  | [d1, d2] => { results := [.lit (.bool true)], args := [d1, d2] }
  | _ => none }
def masonButtonsRow : OpenClaim := { program := "ytakfgolgfgdeaaagreatdoor", sum := "4d7f7d86304a79117c6b5be4c66ed726890bfcaffed4c5674b69bc086fd4179d", func := "arbour/arbourlaw22.MasonButtons", spec := "masonButtons", inPlace := ["internal/bytealg.CountString", "internal/bytealg.IndexByteString", "internal/bytealg.IndexString", "internal/abi.NoEscape", "internal/bytealg.MakeNoZero", "slices.overlaps[arbour/active.Entry[int]]", "slices.overlaps[arbour/open.Item[int]]"], unfollowed := true, recurses := true, named := ["unicode/utf8.first", "unicode/utf8.acceptRanges", "internal/bytealg.MaxLen"], apart := false, laid := [("unicode/utf8.acceptRanges", laid_unicode_utf8_acceptRanges), ("unicode/utf8.first", laid_unicode_utf8_first)] }
def MasonButtonsSaid : Prop := masonButtonsRow.holds Tryz.pinned (OpenSpec.ofChange masonButtonsSpec)

/-- ITS FALSE NEIGHBOUR: 'it returns false'. Refute it at one input. -/
def masonButtonsWrong : ChangeSpec := { name := "masonButtons", fn := fun _ => fun
  | [d1, d2] => { results := [.lit (.bool false)], args := [d1, d2] }
  | _ => none }
def MasonButtonsWrongFalsely : Prop := masonButtonsRow.holds Tryz.pinned (OpenSpec.ofChange masonButtonsWrong)

/-- 'arbourlaw22.MasonCells': WHATEVER THE INPUT: true; the input reads as it did. -/
def masonCellsSpec : ChangeSpec := { name := "masonCells", fn := fun _ => fun
  | [d1, d2] => { results := [.lit (.bool true)], args := [d1, d2] }
  | _ => none }
def masonCellsRow : OpenClaim := { program := "ytakfgolgfgdeaaagreatdoor", sum := "4d7f7d86304a79117c6b5be4c66ed726890bfcaffed4c5674b69bc086fd4179d", func := "arbour/arbourlaw22.MasonCells", spec := "masonCells", inPlace := ["internal/bytealg.CountString", "internal/bytealg.IndexByteString", "internal/bytealg.IndexString", "internal/abi.NoEscape", "internal/bytealg.MakeNoZero", "slices.overlaps[arbour/active.Entry[int]]", "slices.overlaps[arbour/open.Item[int]]"], unfollowed := true, recurses := true, named := ["unicode/utf8.first", "unicode/utf8.acceptRanges", "internal/bytealg.MaxLen"], apart := false, laid := [("unicode/utf8.acceptRanges", laid_unicode_utf8_acceptRanges), ("unicode/utf8.first", laid_unicode_utf8_first)] }
def MasonCellsSaid : Prop := masonCellsRow.holds Tryz.pinned (OpenSpec.ofChange masonCellsSpec)

/-- ITS FALSE NEIGHBOUR: 'it returns false'. Refute it at one input. -/
def masonCellsWrong : ChangeSpec := { name := "masonCells", fn := fun _ => fun
  | [d1, d2] => { results := [.lit (.bool false)], args := [d1, d2] }
  | _ => none }
def MasonCellsWrongFalsely : Prop := masonCellsRow.holds Tryz.pinned (OpenSpec.ofChange masonCellsWrong)

/- THE SECOND FORM. 'bulk': how many values and letters a reading holds, each counted each time it is reached (what is shared counts as often as it is met; a slice's spare places count too). A statement '..UptoSaid' is the law's where the arguments, and the package variables that the reading takes, are together of bulk at most 1048576: NARROWER than '..Said'. Prove '..Said' where nothing that the law and all that it calls make is longer than what came in: it says more and counts as full. Else prove '..UptoSaid'. A law counts once. -/
mutual
def uptoBulk {H : Type} : DataW H → Nat
  | .lit (.string bytes) => bytes.length + 1
  | .lit _ => 1
  | .nil => 1
  | .ptr d => uptoBulk d + 1
  | .slice elems spare => uptoBulkAll elems + uptoBulkAll spare + 1
  | .agg parts => uptoBulkAll parts + 1
  | .iface _ d => uptoBulk d + 1
  | .map entries => uptoBulkEntries entries + 1
  | .held _ => 1
def uptoBulkAll {H : Type} : List (DataW H) → Nat
  | [] => 0
  | d :: r => uptoBulk d + uptoBulkAll r
def uptoBulkEntries {H : Type} : List (Lit × DataW H) → Nat
  | [] => 0
  | x :: r => uptoBulkEntry x + uptoBulkEntries r
def uptoBulkEntry {H : Type} : Lit × DataW H → Nat
  | (.string bytes, d) => bytes.length + uptoBulk d + 1
  | (_, d) => uptoBulk d + 1
 end
def uptoSmall : (H : Type) → List (DataW H) → Bool := fun _ ds => decide (uptoBulkAll ds ≤ 1048576)
def OpenSpec.upto (s : _root_.Go.ChangeSpec) : _root_.Go.OpenSpec := { _root_.Go.OpenSpec.ofChange s with cond := some uptoSmall }

/-- 'arbourlaw22.MasonReopens', WHERE WHAT IT READS IS OF BULK AT MOST 1048576: true; the input reads as it did. -/
def masonReopensUptoRow : OpenClaim := { program := "ytakfgolgfgdeaaagreatdoor", sum := "4d7f7d86304a79117c6b5be4c66ed726890bfcaffed4c5674b69bc086fd4179d", func := "arbour/arbourlaw22.MasonReopens", spec := "masonReopens", inPlace := ["internal/bytealg.CountString", "internal/bytealg.IndexByteString", "internal/bytealg.IndexString", "internal/abi.NoEscape", "internal/bytealg.MakeNoZero", "slices.overlaps[arbour/active.Entry[int]]", "slices.overlaps[arbour/open.Item[int]]"], unfollowed := true, recurses := true, named := ["unicode/utf8.first", "unicode/utf8.acceptRanges", "internal/bytealg.MaxLen"], apart := false, laid := [("unicode/utf8.acceptRanges", laid_unicode_utf8_acceptRanges), ("unicode/utf8.first", laid_unicode_utf8_first)], narrowed := true }
def MasonReopensUptoSaid : Prop := masonReopensUptoRow.holds Tryz.pinned (OpenSpec.upto masonReopensSpec)

/-- 'arbourlaw22.MasonTemplates', WHERE WHAT IT READS IS OF BULK AT MOST 1048576: true; the input reads as it did. -/
def masonTemplatesUptoRow : OpenClaim := { program := "ytakfgolgfgdeaaagreatdoor", sum := "4d7f7d86304a79117c6b5be4c66ed726890bfcaffed4c5674b69bc086fd4179d", func := "arbour/arbourlaw22.MasonTemplates", spec := "masonTemplates", inPlace := ["internal/bytealg.CountString", "internal/bytealg.IndexByteString", "internal/bytealg.IndexString", "internal/abi.NoEscape", "internal/bytealg.MakeNoZero", "slices.overlaps[arbour/active.Entry[int]]", "slices.overlaps[arbour/open.Item[int]]"], unfollowed := true, recurses := true, named := ["unicode/utf8.first", "unicode/utf8.acceptRanges", "internal/bytealg.MaxLen"], apart := false, laid := [("unicode/utf8.acceptRanges", laid_unicode_utf8_acceptRanges), ("unicode/utf8.first", laid_unicode_utf8_first)], narrowed := true }
def MasonTemplatesUptoSaid : Prop := masonTemplatesUptoRow.holds Tryz.pinned (OpenSpec.upto masonTemplatesSpec)

/-- 'arbourlaw22.MasonForeign', WHERE WHAT IT READS IS OF BULK AT MOST 1048576: true; the input reads as it did. -/
def masonForeignUptoRow : OpenClaim := { program := "ytakfgolgfgdeaaagreatdoor", sum := "4d7f7d86304a79117c6b5be4c66ed726890bfcaffed4c5674b69bc086fd4179d", func := "arbour/arbourlaw22.MasonForeign", spec := "masonForeign", inPlace := ["internal/bytealg.CountString", "internal/bytealg.IndexByteString", "internal/bytealg.IndexString", "internal/abi.NoEscape", "internal/bytealg.MakeNoZero", "slices.overlaps[arbour/active.Entry[int]]", "slices.overlaps[arbour/open.Item[int]]"], unfollowed := true, recurses := true, named := ["unicode/utf8.first", "unicode/utf8.acceptRanges", "internal/bytealg.MaxLen"], apart := false, laid := [("unicode/utf8.acceptRanges", laid_unicode_utf8_acceptRanges), ("unicode/utf8.first", laid_unicode_utf8_first)], narrowed := true }
def MasonForeignUptoSaid : Prop := masonForeignUptoRow.holds Tryz.pinned (OpenSpec.upto masonForeignSpec)

/-- 'arbourlaw22.MasonLinks', WHERE WHAT IT READS IS OF BULK AT MOST 1048576: true; the input reads as it did. -/
def masonLinksUptoRow : OpenClaim := { program := "ytakfgolgfgdeaaagreatdoor", sum := "4d7f7d86304a79117c6b5be4c66ed726890bfcaffed4c5674b69bc086fd4179d", func := "arbour/arbourlaw22.MasonLinks", spec := "masonLinks", inPlace := ["internal/bytealg.CountString", "internal/bytealg.IndexByteString", "internal/bytealg.IndexString", "internal/abi.NoEscape", "internal/bytealg.MakeNoZero", "slices.overlaps[arbour/active.Entry[int]]", "slices.overlaps[arbour/open.Item[int]]"], unfollowed := true, recurses := true, named := ["unicode/utf8.first", "unicode/utf8.acceptRanges", "internal/bytealg.MaxLen"], apart := false, laid := [("unicode/utf8.acceptRanges", laid_unicode_utf8_acceptRanges), ("unicode/utf8.first", laid_unicode_utf8_first)], narrowed := true }
def MasonLinksUptoSaid : Prop := masonLinksUptoRow.holds Tryz.pinned (OpenSpec.upto masonLinksSpec)

/-- 'arbourlaw22.MasonLines', WHERE WHAT IT READS IS OF BULK AT MOST 1048576: true; the input reads as it did. -/
def masonLinesUptoRow : OpenClaim := { program := "ytakfgolgfgdeaaagreatdoor", sum := "4d7f7d86304a79117c6b5be4c66ed726890bfcaffed4c5674b69bc086fd4179d", func := "arbour/arbourlaw22.MasonLines", spec := "masonLines", inPlace := ["internal/bytealg.CountString", "internal/bytealg.IndexByteString", "internal/bytealg.IndexString", "internal/abi.NoEscape", "internal/bytealg.MakeNoZero", "slices.overlaps[arbour/active.Entry[int]]", "slices.overlaps[arbour/open.Item[int]]"], unfollowed := true, recurses := true, named := ["unicode/utf8.first", "unicode/utf8.acceptRanges", "internal/bytealg.MaxLen"], apart := false, laid := [("unicode/utf8.acceptRanges", laid_unicode_utf8_acceptRanges), ("unicode/utf8.first", laid_unicode_utf8_first)], narrowed := true }
def MasonLinesUptoSaid : Prop := masonLinesUptoRow.holds Tryz.pinned (OpenSpec.upto masonLinesSpec)

/-- 'arbourlaw22.MasonButtons', WHERE WHAT IT READS IS OF BULK AT MOST 1048576: true; the input reads as it did. -/
def masonButtonsUptoRow : OpenClaim := { program := "ytakfgolgfgdeaaagreatdoor", sum := "4d7f7d86304a79117c6b5be4c66ed726890bfcaffed4c5674b69bc086fd4179d", func := "arbour/arbourlaw22.MasonButtons", spec := "masonButtons", inPlace := ["internal/bytealg.CountString", "internal/bytealg.IndexByteString", "internal/bytealg.IndexString", "internal/abi.NoEscape", "internal/bytealg.MakeNoZero", "slices.overlaps[arbour/active.Entry[int]]", "slices.overlaps[arbour/open.Item[int]]"], unfollowed := true, recurses := true, named := ["unicode/utf8.first", "unicode/utf8.acceptRanges", "internal/bytealg.MaxLen"], apart := false, laid := [("unicode/utf8.acceptRanges", laid_unicode_utf8_acceptRanges), ("unicode/utf8.first", laid_unicode_utf8_first)], narrowed := true }
def MasonButtonsUptoSaid : Prop := masonButtonsUptoRow.holds Tryz.pinned (OpenSpec.upto masonButtonsSpec)

/-- 'arbourlaw22.MasonCells', WHERE WHAT IT READS IS OF BULK AT MOST 1048576: true; the input reads as it did. -/
def masonCellsUptoRow : OpenClaim := { program := "ytakfgolgfgdeaaagreatdoor", sum := "4d7f7d86304a79117c6b5be4c66ed726890bfcaffed4c5674b69bc086fd4179d", func := "arbour/arbourlaw22.MasonCells", spec := "masonCells", inPlace := ["internal/bytealg.CountString", "internal/bytealg.IndexByteString", "internal/bytealg.IndexString", "internal/abi.NoEscape", "internal/bytealg.MakeNoZero", "slices.overlaps[arbour/active.Entry[int]]", "slices.overlaps[arbour/open.Item[int]]"], unfollowed := true, recurses := true, named := ["unicode/utf8.first", "unicode/utf8.acceptRanges", "internal/bytealg.MaxLen"], apart := false, laid := [("unicode/utf8.acceptRanges", laid_unicode_utf8_acceptRanges), ("unicode/utf8.first", laid_unicode_utf8_first)], narrowed := true }
def MasonCellsUptoSaid : Prop := masonCellsUptoRow.holds Tryz.pinned (OpenSpec.upto masonCellsSpec)

end Rows
end Go.Proofs.YtakfgolgfgdeaaaGreatDoor
