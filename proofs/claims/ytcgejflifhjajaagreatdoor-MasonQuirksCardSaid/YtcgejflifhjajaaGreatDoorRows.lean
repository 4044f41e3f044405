/-
  NARROWER THAN 'FOR EVERY INPUT', by the rows' own cells (each row's printed sentence says how): MasonReopens: laid · MasonQuirks: laid · MasonAttrs: laid · MasonNumbers: laid.
  DERIVED. THE GIVEN ROWS OF THIS SEAT. 4 by the template 'for every input the law returns true; each argument reads behind the call as it read before'; 0 by the template 'total and deterministic' (their statements: YtcgejflifhjajaaGreatDoorTotals.lean).
  GIVEN WITH THE SEED: the statements are not yours to turn. If you find one false, say at which input.
  Laid BY PROGRAM, IN A SANDBOX (cutbox-rows.mjs): the forced cells as the released guide's own fill.sh prints them over the translation 0c2f358f6c60d341… (all of the seat's roots in one cut). By AI agents, Wed Nov 11 2026. No macro, syntax, notation, axiom, sorry.
-/
import Derived.Test.YtcgejflifhjajaaGreatDoorChecked
import GoSem.PinnedTables
import GoSem.Claim
import GoSem.ClaimJoined
import GoSem.ClaimMapViews
import Derived.JoinedTies
import Derived.KernelRfl
namespace Go.Proofs.YtcgejflifhjajaaGreatDoor
/- THE CELL 'sum', in the pinned program and in every row, IS THE sha256 OF THE DUMP (.gsa) THAT YtcgejflifhjajaaGreatDoorProg.lean LOADS. Nothing in Lean hashes anything: it is a label: what it is worth is what the hold of that sum in a sandbox is worth. -/
noncomputable def Tryz.pinned : Pinned := { name := "ytcgejflifhjajaagreatdoor", sum := "0c2f358f6c60d341d425947bf3203e8e532ec43aa078f373f06d739aacf7cf8d", checked := Tryz.checked }
namespace Rows
def none {H : Type} : Left H := { results := [], args := [] }

/- WHAT THE LISTED PACKAGE-LEVEL VARIABLES READ AS WHEN THE CALL BEGINS. Each datum BY PROGRAM (the guide's laid-datum.mjs) off the statement by which the dump's own 'gosem.cut.vars' lays the variable. In a bare row this is a premise. The card (YtcgejflifhjajaaGreatDoorCards.lean) ties it to the program's text. -/
def laid_unicode_utf8_acceptRanges {H : Type} : DataW H := .agg [.agg [.lit (.int .u8 128), .lit (.int .u8 191)], .agg [.lit (.int .u8 160), .lit (.int .u8 191)], .agg [.lit (.int .u8 128), .lit (.int .u8 159)], .agg [.lit (.int .u8 144), .lit (.int .u8 191)], .agg [.lit (.int .u8 128), .lit (.int .u8 143)], .agg [.lit (.int .u8 0), .lit (.int .u8 0)], .agg [.lit (.int .u8 0), .lit (.int .u8 0)], .agg [.lit (.int .u8 0), .lit (.int .u8 0)], .agg [.lit (.int .u8 0), .lit (.int .u8 0)], .agg [.lit (.int .u8 0), .lit (.int .u8 0)], .agg [.lit (.int .u8 0), .lit (.int .u8 0)], .agg [.lit (.int .u8 0), .lit (.int .u8 0)], .agg [.lit (.int .u8 0), .lit (.int .u8 0)], .agg [.lit (.int .u8 0), .lit (.int .u8 0)], .agg [.lit (.int .u8 0), .lit (.int .u8 0)], .agg [.lit (.int .u8 0), .lit (.int .u8 0)]]
/-- One of Go's own tables, pinned by name: the form's constant. -/
def laid_unicode_utf8_first : DataW Unit := Go.Pinned.utf8First

/-- 'arbourlaw22.MasonReopens': WHATEVER THE INPUT: true; the input reads as it did. -/
def masonReopensSpec : ChangeSpec := { name := "masonReopens", fn := fun _ => fun
  | [d1, d2, d3] => { results := [.lit (.bool true)], args := [d1, d2, d3] }
  | _ => none }
def masonReopensRow : OpenClaim := { program := "ytcgejflifhjajaagreatdoor", sum := "0c2f358f6c60d341d425947bf3203e8e532ec43aa078f373f06d739aacf7cf8d", func := "arbour/arbourlaw22.MasonReopens", spec := "masonReopens", inPlace := ["internal/bytealg.CountString", "internal/bytealg.IndexByteString", "internal/bytealg.IndexString", "internal/abi.NoEscape", "internal/bytealg.MakeNoZero", "slices.overlaps[arbour/active.Entry[int]]", "slices.overlaps[arbour/open.Item[int]]"], unfollowed := true, recurses := true, named := ["unicode/utf8.first", "unicode/utf8.acceptRanges", "internal/bytealg.MaxLen"], apart := false, laid := [("unicode/utf8.acceptRanges", laid_unicode_utf8_acceptRanges), ("unicode/utf8.first", laid_unicode_utf8_first)] }
def MasonReopensSaid : Prop := masonReopensRow.holds Tryz.pinned (OpenSpec.ofChange masonReopensSpec)

/-- ITS FALSE NEIGHBOUR: 'it returns false'. Refute it at one input. -/
def masonReopensWrong : ChangeSpec := { name := "masonReopens", fn := fun _ => fun
  | [d1, d2, d3] => { results := [.lit (.bool false)], args := [d1, d2, d3] }
  | _ => none }
def MasonReopensWrongFalsely : Prop := masonReopensRow.holds Tryz.pinned (OpenSpec.ofChange masonReopensWrong)

/-- 'arbourlaw22.MasonQuirks': WHATEVER THE INPUT: true; the input reads as it did. -/
def masonQuirksSpec : ChangeSpec := { name := "masonQuirks", fn := fun _ => fun
  | [d1, d2, d3] => { results := [.lit (.bool true)], args := [d1, d2, d3] }
  | _ => none }
def masonQuirksRow : OpenClaim := { program := "ytcgejflifhjajaagreatdoor", sum := "0c2f358f6c60d341d425947bf3203e8e532ec43aa078f373f06d739aacf7cf8d", func := "arbour/arbourlaw22.MasonQuirks", spec := "masonQuirks", inPlace := ["internal/bytealg.CountString", "internal/bytealg.IndexByteString", "internal/bytealg.IndexString", "internal/abi.NoEscape", "internal/bytealg.MakeNoZero", "slices.overlaps[arbour/active.Entry[int]]", "slices.overlaps[arbour/open.Item[int]]"], unfollowed := true, recurses := true, named := ["unicode/utf8.first", "unicode/utf8.acceptRanges", "internal/bytealg.MaxLen"], apart := false, laid := [("unicode/utf8.acceptRanges", laid_unicode_utf8_acceptRanges), ("unicode/utf8.first", laid_unicode_utf8_first)] }
def MasonQuirksSaid : Prop := masonQuirksRow.holds Tryz.pinned (OpenSpec.ofChange masonQuirksSpec)

/-- ITS FALSE NEIGHBOUR: 'it returns false'. Refute it at one input. -/
def masonQuirksWrong : ChangeSpec := { name := "masonQuirks", fn := fun _ => fun
  | [d1, d2, d3] => { results := [.lit (.bool false)], args := [d1, d2, d3] }
  | _ => none }
def MasonQuirksWrongFalsely : Prop := masonQuirksRow.holds Tryz.pinned (OpenSpec.ofChange masonQuirksWrong)

/-- 'arbourlaw22.MasonAttrs': WHATEVER THE INPUT: true; the input reads as it did. -/
def masonAttrsSpec : ChangeSpec := { name := "masonAttrs", fn := fun _ => fun
  | [d1, d2, d3] => { results := [.lit (.bool true)], args := [d1, d2, d3] }
  | _ => none }
def masonAttrsRow : OpenClaim := { program := "ytcgejflifhjajaagreatdoor", sum := "0c2f358f6c60d341d425947bf3203e8e532ec43aa078f373f06d739aacf7cf8d", func := "arbour/arbourlaw22.MasonAttrs", spec := "masonAttrs", inPlace := ["internal/bytealg.CountString", "internal/bytealg.IndexByteString", "internal/bytealg.IndexString", "internal/abi.NoEscape", "internal/bytealg.MakeNoZero", "slices.overlaps[arbour/active.Entry[int]]", "slices.overlaps[arbour/open.Item[int]]"], unfollowed := true, recurses := true, named := ["unicode/utf8.first", "unicode/utf8.acceptRanges", "internal/bytealg.MaxLen"], apart := false, laid := [("unicode/utf8.acceptRanges", laid_unicode_utf8_acceptRanges), ("unicode/utf8.first", laid_unicode_utf8_first)] }
def MasonAttrsSaid : Prop := masonAttrsRow.holds Tryz.pinned (OpenSpec.ofChange masonAttrsSpec)

/-- ITS FALSE NEIGHBOUR: 'it returns false'. Refute it at one input. -/
def masonAttrsWrong : ChangeSpec := { name := "masonAttrs", fn := fun _ => fun
  | [d1, d2, d3] => { results := [.lit (.bool false)], args := [d1, d2, d3] }
  | _ => none }
def MasonAttrsWrongFalsely : Prop := masonAttrsRow.holds Tryz.pinned (OpenSpec.ofChange masonAttrsWrong)

/-- 'arbourlaw22.MasonNumbers': WHATEVER THE INPUT: true; the input reads as it did. -/
def masonNumbersSpec : ChangeSpec := { name := "masonNumbers", fn := fun _ => fun
  | [] => { results := [.lit (.bool true)], args := [] }
  | _ => none }
def masonNumbersRow : OpenClaim := { program := "ytcgejflifhjajaagreatdoor", sum := "0c2f358f6c60d341d425947bf3203e8e532ec43aa078f373f06d739aacf7cf8d", func := "arbour/arbourlaw22.MasonNumbers", spec := "masonNumbers", inPlace := ["internal/bytealg.CountString", "internal/bytealg.IndexByteString", "internal/bytealg.IndexString", "internal/abi.NoEscape", "internal/bytealg.MakeNoZero", "slices.overlaps[arbour/active.Entry[int]]", "slices.overlaps[arbour/open.Item[int]]"], unfollowed := true, recurses := true, named := ["unicode/utf8.first", "unicode/utf8.acceptRanges", "internal/bytealg.MaxLen"], apart := false, laid := [("unicode/utf8.acceptRanges", laid_unicode_utf8_acceptRanges), ("unicode/utf8.first", laid_unicode_utf8_first)] }
def MasonNumbersSaid : Prop := masonNumbersRow.holds Tryz.pinned (OpenSpec.ofChange masonNumbersSpec)

/-- ITS FALSE NEIGHBOUR: 'it returns false'. Refute it at one input. -/
def masonNumbersWrong : ChangeSpec := { name := "masonNumbers", fn := fun _ => fun
  | [] => { results := [.lit (.bool false)], args := [] }
  | _ => none }
def MasonNumbersWrongFalsely : Prop := masonNumbersRow.holds Tryz.pinned (OpenSpec.ofChange masonNumbersWrong)

/- THE SECOND FORM. 'bulk': how many values and letters a reading holds, each counted each time it is reached (what is shared counts as often as it is met; a slice's spare places count too). A statement '..UptoSaid' is the law's where the arguments, and the package variables that the reading takes, are together of bulk at most 1048576: NARROWER than '..Said'. Prove '..Said' where nothing that the law and all that it calls make is longer than what came in: it says more and counts as full. Else prove '..UptoSaid'. A law counts once. -/
mutual
def uptoBulk {H : Type} : DataW H → Nat
  | .lit (.string bytes) => bytes.length + 1
  | .lit _ => 1
  | .nil => 1
  | .ptr d => uptoBulk d + 1
  | .slice elems spare => uptoBulkAll elems + uptoBulkAll spare + 1
  | .agg parts => uptoBulkAll parts + 1
  | .iface _ d => uptoBulk d + 1
  | .map entries => uptoBulkEntries entries + 1
  | .held _ => 1
def uptoBulkAll {H : Type} : List (DataW H) → Nat
  | [] => 0
  | d :: r => uptoBulk d + uptoBulkAll r
def uptoBulkEntries {H : Type} : List (Lit × DataW H) → Nat
  | [] => 0
  | x :: r => uptoBulkEntry x + uptoBulkEntries r
def uptoBulkEntry {H : Type} : Lit × DataW H → Nat
  | (.string bytes, d) => bytes.length + uptoBulk d + 1
  | (_, d) => uptoBulk d + 1
 end
def uptoSmall : (H : Type) → List (DataW H) → Bool := fun _ ds => decide (uptoBulkAll ds ≤ 1048576)
def OpenSpec.upto (s : _root_.Go.ChangeSpec) : _root_.Go.OpenSpec := { _root_.Go.OpenSpec.ofChange s with cond := some uptoSmall }

/-- 'arbourlaw22.MasonReopens', WHERE WHAT IT READS IS OF BULK AT MOST 1048576: true; the input reads as it did. -/
def masonReopensUptoRow : OpenClaim := { program := "ytcgejflifhjajaagreatdoor", sum := "0c2f358f6c60d341d425947bf3203e8e532ec43aa078f373f06d739aacf7cf8d", func := "arbour/arbourlaw22.MasonReopens", spec := "masonReopens", inPlace := ["internal/bytealg.CountString", "internal/bytealg.IndexByteString", "internal/bytealg.IndexString", "internal/abi.NoEscape", "internal/bytealg.MakeNoZero", "slices.overlaps[arbour/active.Entry[int]]", "slices.overlaps[arbour/open.Item[int]]"], unfollowed := true, recurses := true, named := ["unicode/utf8.first", "unicode/utf8.acceptRanges", "internal/bytealg.MaxLen"], apart := false, laid := [("unicode/utf8.acceptRanges", laid_unicode_utf8_acceptRanges), ("unicode/utf8.first", laid_unicode_utf8_first)], narrowed := true }
def MasonReopensUptoSaid : Prop := masonReopensUptoRow.holds Tryz.pinned (OpenSpec.upto masonReopensSpec)

/-- 'arbourlaw22.MasonQuirks', WHERE WHAT IT READS IS OF BULK AT MOST 1048576: true; the input reads as it did. -/
def masonQuirksUptoRow : OpenClaim := { program := "ytcgejflifhjajaagreatdoor", sum := "0c2f358f6c60d341d425947bf3203e8e532ec43aa078f373f06d739aacf7cf8d", func := "arbour/arbourlaw22.MasonQuirks", spec := "masonQuirks", inPlace := ["internal/bytealg.CountString", "internal/bytealg.IndexByteString", "internal/bytealg.IndexString", "internal/abi.NoEscape", "internal/bytealg.MakeNoZero", "slices.overlaps[arbour/active.Entry[int]]", "slices.overlaps[arbour/open.Item[int]]"], unfollowed := true, recurses := true, named := ["unicode/utf8.first", "unicode/utf8.acceptRanges", "internal/bytealg.MaxLen"], apart := false, laid := [("unicode/utf8.acceptRanges", laid_unicode_utf8_acceptRanges), ("unicode/utf8.first", laid_unicode_utf8_first)], narrowed := true }
def MasonQuirksUptoSaid : Prop := masonQuirksUptoRow.holds Tryz.pinned (OpenSpec.upto masonQuirksSpec)

/-- 'arbourlaw22.MasonAttrs', WHERE WHAT IT READS IS OF BULK AT MOST 1048576: true; the input reads as it did. -/
def masonAttrsUptoRow : OpenClaim := { program := "ytcgejflifhjajaagreatdoor", sum := "0c2f358f6c60d341d425947bf3203e8e532ec43aa078f373f06d739aacf7cf8d", func := "arbour/arbourlaw22.MasonAttrs", spec := "masonAttrs", inPlace := ["internal/bytealg.CountString", "internal/bytealg.IndexByteString", "internal/bytealg.IndexString", "internal/abi.NoEscape", "internal/bytealg.MakeNoZero", "slices.overlaps[arbour/active.Entry[int]]", "slices.overlaps[arbour/open.Item[int]]"], unfollowed := true, recurses := true, named := ["unicode/utf8.first", "unicode/utf8.acceptRanges", "internal/bytealg.MaxLen"], apart := false, laid := [("unicode/utf8.acceptRanges", laid_unicode_utf8_acceptRanges), ("unicode/utf8.first", laid_unicode_utf8_first)], narrowed := true }
def MasonAttrsUptoSaid : Prop := masonAttrsUptoRow.holds Tryz.pinned (OpenSpec.upto masonAttrsSpec)

/-- 'arbourlaw22.MasonNumbers', WHERE WHAT IT READS IS OF BULK AT MOST 1048576: true; the input reads as it did. -/
def masonNumbersUptoRow : OpenClaim := { program := "ytcgejflifhjajaagreatdoor", sum := "0c2f358f6c60d341d425947bf3203e8e532ec43aa078f373f06d739aacf7cf8d", func := "arbour/arbourlaw22.MasonNumbers", spec := "masonNumbers", inPlace := ["internal/bytealg.CountString", "internal/bytealg.IndexByteString", "internal/bytealg.IndexString", "internal/abi.NoEscape", "internal/bytealg.MakeNoZero", "slices.overlaps[arbour/active.Entry[int]]", "slices.overlaps[arbour/open.Item[int]]"], unfollowed := true, recurses := true, named := ["unicode/utf8.first", "unicode/utf8.acceptRanges", "internal/bytealg.MaxLen"], apart := false, laid := [("unicode/utf8.acceptRanges", laid_unicode_utf8_acceptRanges), ("unicode/utf8.first", laid_unicode_utf8_first)], narrowed := true }
def MasonNumbersUptoSaid : Prop := masonNumbersUptoRow.holds Tryz.pinned (OpenSpec.upto masonNumbersSpec)

end Rows
end Go.Proofs.YtcgejflifhjajaaGreatDoor
