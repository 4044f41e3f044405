/-
  No cell of these rows narrows 'for every input' (looked for: loops, veiled, ifaces, maps, wideKeys, modest, calm, conditions, laid).
  DERIVED. THE GIVEN ROWS OF THIS SEAT. 4 by the template 'for every input the law returns true; each argument reads behind the call as it read before'; 0 by the template 'total and deterministic' (their statements: YtjkolhdcgidmnaaTotals.lean).
  GIVEN WITH THE SEED: the statements are not yours to turn. If you find one false, say at which input.
  Laid BY PROGRAM, IN A SANDBOX (cutbox-rows.mjs): the forced cells as the released guide's own fill.sh prints them over the translation d46b74ed766174f0… (all of the seat's roots in one cut). By AI agents, Wed Nov 11 2026. No macro, syntax, notation, axiom, sorry.
-/
import Derived.Test.YtjkolhdcgidmnaaChecked
import GoSem.Claim
import GoSem.ClaimJoined
import GoSem.ClaimMapViews
import Derived.JoinedTies
import Derived.KernelRfl
namespace Go.Proofs.Ytjkolhdcgidmnaa
/- THE CELL 'sum', in the pinned program and in every row, IS THE sha256 OF THE DUMP (.gsa) THAT YtjkolhdcgidmnaaProg.lean LOADS. Nothing in Lean hashes anything: it is a label: what it is worth is what the hold of that sum in a sandbox is worth. -/
noncomputable def Try.pinned : Pinned := { name := "ytjkolhdcgidmnaa", sum := "d46b74ed766174f0218cf7008633e7cdbe0831a92143f70f461be58cf6f5eaee", checked := Try.checked }
namespace Rows
def none {H : Type} : Left H := { results := [], args := [] }

/-- 'arbourlaw4.CharsSplits': WHATEVER THE INPUT: true; the input reads as it did. -/
def charsSplitsSpec : ChangeSpec := { name := "charsSplits", fn := fun _ => fun
  | [d] => { results := [.lit (.bool true)], args := [d] }
  | _ => none }
def charsSplitsRow : OpenClaim := { program := "ytjkolhdcgidmnaa", sum := "d46b74ed766174f0218cf7008633e7cdbe0831a92143f70f461be58cf6f5eaee", func := "arbour/arbourlaw4.CharsSplits", spec := "charsSplits", apart := false }
def CharsSplitsSaid : Prop := charsSplitsRow.holds Try.pinned (OpenSpec.ofChange charsSplitsSpec)

/-- ITS FALSE NEIGHBOUR: 'it returns false'. Refute it at one input. -/
def charsSplitsWrong : ChangeSpec := { name := "charsSplits", fn := fun _ => fun
  | [d] => { results := [.lit (.bool false)], args := [d] }
  | _ => none }
def CharsSplitsWrongFalsely : Prop := charsSplitsRow.holds Try.pinned (OpenSpec.ofChange charsSplitsWrong)

/-- 'arbourlaw4.CharsNumbers': WHATEVER THE INPUT: true; the input reads as it did. -/
def charsNumbersSpec : ChangeSpec := { name := "charsNumbers", fn := fun _ => fun
  | [] => { results := [.lit (.bool true)], args := [] }
  | _ => none }
def charsNumbersRow : OpenClaim := { program := "ytjkolhdcgidmnaa", sum := "d46b74ed766174f0218cf7008633e7cdbe0831a92143f70f461be58cf6f5eaee", func := "arbour/arbourlaw4.CharsNumbers", spec := "charsNumbers", apart := false }
def CharsNumbersSaid : Prop := charsNumbersRow.holds Try.pinned (OpenSpec.ofChange charsNumbersSpec)

/-- ITS FALSE NEIGHBOUR: 'it returns false'. Refute it at one input. -/
def charsNumbersWrong : ChangeSpec := { name := "charsNumbers", fn := fun _ => fun
  | [] => { results := [.lit (.bool false)], args := [] }
  | _ => none }
def CharsNumbersWrongFalsely : Prop := charsNumbersRow.holds Try.pinned (OpenSpec.ofChange charsNumbersWrong)

/-- 'arbourlaw4.CharsTells': WHATEVER THE INPUT: true; the input reads as it did. -/
def charsTellsSpec : ChangeSpec := { name := "charsTells", fn := fun _ => fun
  | [d1, d2, d3] => { results := [.lit (.bool true)], args := [d1, d2, d3] }
  | _ => none }
def charsTellsRow : OpenClaim := { program := "ytjkolhdcgidmnaa", sum := "d46b74ed766174f0218cf7008633e7cdbe0831a92143f70f461be58cf6f5eaee", func := "arbour/arbourlaw4.CharsTells", spec := "charsTells", apart := false }
def CharsTellsSaid : Prop := charsTellsRow.holds Try.pinned (OpenSpec.ofChange charsTellsSpec)

/-- ITS FALSE NEIGHBOUR: 'it returns false'. Refute it at one input. -/
def charsTellsWrong : ChangeSpec := { name := "charsTells", fn := fun _ => fun
  | [d1, d2, d3] => { results := [.lit (.bool false)], args := [d1, d2, d3] }
  | _ => none }
def CharsTellsWrongFalsely : Prop := charsTellsRow.holds Try.pinned (OpenSpec.ofChange charsTellsWrong)

/-- 'arbourlaw4.CharsKinds': WHATEVER THE INPUT: true; the input reads as it did. -/
def charsKindsSpec : ChangeSpec := { name := "charsKinds", fn := fun _ => fun
  | [d1, d2] => { results := [.lit (.bool true)], args := [d1, d2] }
  | _ => none }
def charsKindsRow : OpenClaim := { program := "ytjkolhdcgidmnaa", sum := "d46b74ed766174f0218cf7008633e7cdbe0831a92143f70f461be58cf6f5eaee", func := "arbour/arbourlaw4.CharsKinds", spec := "charsKinds", apart := false }
def CharsKindsSaid : Prop := charsKindsRow.holds Try.pinned (OpenSpec.ofChange charsKindsSpec)

/-- ITS FALSE NEIGHBOUR: 'it returns false'. Refute it at one input. -/
def charsKindsWrong : ChangeSpec := { name := "charsKinds", fn := fun _ => fun
  | [d1, d2] => { results := [.lit (.bool false)], args := [d1, d2] }
  | _ => none }
def CharsKindsWrongFalsely : Prop := charsKindsRow.holds Try.pinned (OpenSpec.ofChange charsKindsWrong)

/- THE SECOND FORM. 'bulk': how many values and letters a reading holds, each counted each time it is reached (what is shared counts as often as it is met; a slice's spare places count too). A statement '..UptoSaid' is the law's where the arguments, and the package variables that the reading takes, are together of bulk at most 1048576: NARROWER than '..Said'. Prove '..Said' where nothing that the law and all that it calls make is longer than what came in: it says more and counts as full. Else prove '..UptoSaid'. A law counts once. -/
mutual
def uptoBulk {H : Type} : DataW H → Nat
  | .lit (.string bytes) => bytes.length + 1
  | .lit _ => 1
  | .nil => 1
  | .ptr d => uptoBulk d + 1
  | .slice elems spare => uptoBulkAll elems + uptoBulkAll spare + 1
  | .agg parts => uptoBulkAll parts + 1
  | .iface _ d => uptoBulk d + 1
  | .map entries => uptoBulkEntries entries + 1
  | .held _ => 1
def uptoBulkAll {H : Type} : List (DataW H) → Nat
  | [] => 0
  | d :: r => uptoBulk d + uptoBulkAll r
def uptoBulkEntries {H : Type} : List (Lit × DataW H) → Nat
  | [] => 0
  | x :: r => uptoBulkEntry x + uptoBulkEntries r
def uptoBulkEntry {H : Type} : Lit × DataW H → Nat
  | (.string bytes, d) => bytes.length + uptoBulk d + 1
  | (_, d) => uptoBulk d + 1
 end
def uptoSmall : (H : Type) → List (DataW H) → Bool := fun _ ds => decide (uptoBulkAll ds ≤ 1048576)
def OpenSpec.upto (s : _root_.Go.ChangeSpec) : _root_.Go.OpenSpec := { _root_.Go.OpenSpec.ofChange s with cond := some uptoSmall }

/-- 'arbourlaw4.CharsSplits', WHERE WHAT IT READS IS OF BULK AT MOST 1048576: true; the input reads as it did. -/
def charsSplitsUptoRow : OpenClaim := { program := "ytjkolhdcgidmnaa", sum := "d46b74ed766174f0218cf7008633e7cdbe0831a92143f70f461be58cf6f5eaee", func := "arbour/arbourlaw4.CharsSplits", spec := "charsSplits", apart := false, narrowed := true }
def CharsSplitsUptoSaid : Prop := charsSplitsUptoRow.holds Try.pinned (OpenSpec.upto charsSplitsSpec)

/-- 'arbourlaw4.CharsNumbers', WHERE WHAT IT READS IS OF BULK AT MOST 1048576: true; the input reads as it did. -/
def charsNumbersUptoRow : OpenClaim := { program := "ytjkolhdcgidmnaa", sum := "d46b74ed766174f0218cf7008633e7cdbe0831a92143f70f461be58cf6f5eaee", func := "arbour/arbourlaw4.CharsNumbers", spec := "charsNumbers", apart := false, narrowed := true }
def CharsNumbersUptoSaid : Prop := charsNumbersUptoRow.holds Try.pinned (OpenSpec.upto charsNumbersSpec)

/-- 'arbourlaw4.CharsTells', WHERE WHAT IT READS IS OF BULK AT MOST 1048576: true; the input reads as it did. -/
def charsTellsUptoRow : OpenClaim := { program := "ytjkolhdcgidmnaa", sum := "d46b74ed766174f0218cf7008633e7cdbe0831a92143f70f461be58cf6f5eaee", func := "arbour/arbourlaw4.CharsTells", spec := "charsTells", apart := false, narrowed := true }
def CharsTellsUptoSaid : Prop := charsTellsUptoRow.holds Try.pinned (OpenSpec.upto charsTellsSpec)

/-- 'arbourlaw4.CharsKinds', WHERE WHAT IT READS IS OF BULK AT MOST 1048576: true; the input reads as it did. -/
def charsKindsUptoRow : OpenClaim := { program := "ytjkolhdcgidmnaa", sum := "d46b74ed766174f0218cf7008633e7cdbe0831a92143f70f461be58cf6f5eaee", func := "arbour/arbourlaw4.CharsKinds", spec := "charsKinds", apart := false, narrowed := true }
def CharsKindsUptoSaid : Prop := charsKindsUptoRow.holds Try.pinned (OpenSpec.upto charsKindsSpec)

end Rows
end Go.Proofs.Ytjkolhdcgidmnaa
