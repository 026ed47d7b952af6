/-
  No cell of these rows narrows 'for every input' (looked for: loops, veiled, ifaces, maps, wideKeys, modest, calm, conditions, laid).
  DERIVED. THE GIVEN ROWS OF THIS SEAT. 6 by the template 'for every input the law returns true; each argument reads behind the call as it read before'; 0 by the template 'total and deterministic' (their statements: YtlgjfgjbchkobaaTotals.lean).
  GIVEN WITH THE SEED: the statements are not yours to turn. If you find one false, say at which input.
  Laid BY PROGRAM, IN A SANDBOX (cutbox-rows.mjs): the forced cells as the released guide's own fill.sh prints them over the translation 3da805a57a0aa9f6… (all of the seat's roots in one cut). By AI agents, Wed Nov 11 2026. No macro, syntax, notation, axiom, sorry.
-/
import Derived.Test.YtlgjfgjbchkobaaChecked
import GoSem.Claim
import GoSem.ClaimJoined
import GoSem.ClaimMapViews
import Derived.JoinedTies
import Derived.KernelRfl
namespace Go.Proofs.Ytlgjfgjbchkobaa
/- THE CELL 'sum', in the pinned program and in every row, IS THE sha256 OF THE DUMP (.gsa) THAT YtlgjfgjbchkobaaProg.lean LOADS. Nothing in Lean hashes anything: it is a label: what it is worth is what the hold of that sum in a sandbox is worth. -/
noncomputable def Try.pinned : Pinned := { name := "ytlgjfgjbchkobaa", sum := "3da805a57a0aa9f671cdd7d972837f73b30f3eb1da15de14c1396d12f1d95206", checked := Try.checked }
namespace Rows
def none {H : Type} : Left H := { results := [], args := [] }

/-- 'treemergelaw01.LinesSplits': WHATEVER THE INPUT: true; the input reads as it did. -/
def linesSplitsSpec : ChangeSpec := { name := "linesSplits", fn := fun _ => fun
  | [d1, d2] => { results := [.lit (.bool true)], args := [d1, d2] }
  | _ => none }
def linesSplitsRow : OpenClaim := { program := "ytlgjfgjbchkobaa", sum := "3da805a57a0aa9f671cdd7d972837f73b30f3eb1da15de14c1396d12f1d95206", func := "treemerge/treemergelaw01.LinesSplits", spec := "linesSplits", inPlace := ["internal/bytealg.CountString", "internal/bytealg.IndexByteString", "internal/bytealg.IndexString", "internal/abi.NoEscape", "internal/bytealg.MakeNoZero"], named := ["internal/bytealg.MaxLen"], apart := false }
def LinesSplitsSaid : Prop := linesSplitsRow.holds Try.pinned (OpenSpec.ofChange linesSplitsSpec)

/-- ITS FALSE NEIGHBOUR: 'it returns false'. Refute it at one input. -/
def linesSplitsWrong : ChangeSpec := { name := "linesSplits", fn := fun _ => fun
  | [d1, d2] => { results := [.lit (.bool false)], args := [d1, d2] }
  | _ => none }
def LinesSplitsWrongFalsely : Prop := linesSplitsRow.holds Try.pinned (OpenSpec.ofChange linesSplitsWrong)

/-- 'treemergelaw01.LinesPositions': WHATEVER THE INPUT: true; the input reads as it did. -/
def linesPositionsSpec : ChangeSpec := { name := "linesPositions", fn := fun _ => fun
  | [d1, d2, d3, d4] => { results := [.lit (.bool true)], args := [d1, d2, d3, d4] }
  | _ => none }
def linesPositionsRow : OpenClaim := { program := "ytlgjfgjbchkobaa", sum := "3da805a57a0aa9f671cdd7d972837f73b30f3eb1da15de14c1396d12f1d95206", func := "treemerge/treemergelaw01.LinesPositions", spec := "linesPositions", inPlace := ["internal/bytealg.CountString", "internal/bytealg.IndexByteString", "internal/bytealg.IndexString", "internal/abi.NoEscape", "internal/bytealg.MakeNoZero"], named := ["internal/bytealg.MaxLen"], apart := false }
def LinesPositionsSaid : Prop := linesPositionsRow.holds Try.pinned (OpenSpec.ofChange linesPositionsSpec)

/-- ITS FALSE NEIGHBOUR: 'it returns false'. Refute it at one input. -/
def linesPositionsWrong : ChangeSpec := { name := "linesPositions", fn := fun _ => fun
  | [d1, d2, d3, d4] => { results := [.lit (.bool false)], args := [d1, d2, d3, d4] }
  | _ => none }
def LinesPositionsWrongFalsely : Prop := linesPositionsRow.holds Try.pinned (OpenSpec.ofChange linesPositionsWrong)

/-- 'treemergelaw01.LinesRoundTrip': WHATEVER THE INPUT: true; the input reads as it did. -/
def linesRoundTripSpec : ChangeSpec := { name := "linesRoundTrip", fn := fun _ => fun
  | [d] => { results := [.lit (.bool true)], args := [d] }
  | _ => none }
def linesRoundTripRow : OpenClaim := { program := "ytlgjfgjbchkobaa", sum := "3da805a57a0aa9f671cdd7d972837f73b30f3eb1da15de14c1396d12f1d95206", func := "treemerge/treemergelaw01.LinesRoundTrip", spec := "linesRoundTrip", inPlace := ["internal/abi.NoEscape", "internal/bytealg.MakeNoZero", "internal/bytealg.CountString", "internal/bytealg.IndexByteString", "internal/bytealg.IndexString"], named := ["internal/bytealg.MaxLen"], apart := false }
def LinesRoundTripSaid : Prop := linesRoundTripRow.holds Try.pinned (OpenSpec.ofChange linesRoundTripSpec)

/-- ITS FALSE NEIGHBOUR: 'it returns false'. Refute it at one input. -/
def linesRoundTripWrong : ChangeSpec := { name := "linesRoundTrip", fn := fun _ => fun
  | [d] => { results := [.lit (.bool false)], args := [d] }
  | _ => none }
def LinesRoundTripWrongFalsely : Prop := linesRoundTripRow.holds Try.pinned (OpenSpec.ofChange linesRoundTripWrong)

/-- 'treemergelaw01.LinesOffsets': WHATEVER THE INPUT: true; the input reads as it did. -/
def linesOffsetsSpec : ChangeSpec := { name := "linesOffsets", fn := fun _ => fun
  | [d1, d2] => { results := [.lit (.bool true)], args := [d1, d2] }
  | _ => none }
def linesOffsetsRow : OpenClaim := { program := "ytlgjfgjbchkobaa", sum := "3da805a57a0aa9f671cdd7d972837f73b30f3eb1da15de14c1396d12f1d95206", func := "treemerge/treemergelaw01.LinesOffsets", spec := "linesOffsets", inPlace := ["internal/bytealg.CountString", "internal/bytealg.IndexByteString", "internal/bytealg.IndexString", "internal/abi.NoEscape", "internal/bytealg.MakeNoZero"], named := ["internal/bytealg.MaxLen"], apart := false }
def LinesOffsetsSaid : Prop := linesOffsetsRow.holds Try.pinned (OpenSpec.ofChange linesOffsetsSpec)

/-- ITS FALSE NEIGHBOUR: 'it returns false'. Refute it at one input. -/
def linesOffsetsWrong : ChangeSpec := { name := "linesOffsets", fn := fun _ => fun
  | [d1, d2] => { results := [.lit (.bool false)], args := [d1, d2] }
  | _ => none }
def LinesOffsetsWrongFalsely : Prop := linesOffsetsRow.holds Try.pinned (OpenSpec.ofChange linesOffsetsWrong)

/-- 'treemergelaw01.LinesAppends': WHATEVER THE INPUT: true; the input reads as it did. -/
def linesAppendsSpec : ChangeSpec := { name := "linesAppends", fn := fun _ => fun
  | [d1, d2] => { results := [.lit (.bool true)], args := [d1, d2] }
  | _ => none }
def linesAppendsRow : OpenClaim := { program := "ytlgjfgjbchkobaa", sum := "3da805a57a0aa9f671cdd7d972837f73b30f3eb1da15de14c1396d12f1d95206", func := "treemerge/treemergelaw01.LinesAppends", spec := "linesAppends", inPlace := ["internal/bytealg.CountString", "internal/bytealg.IndexByteString", "internal/bytealg.IndexString", "internal/abi.NoEscape", "internal/bytealg.MakeNoZero"], named := ["internal/bytealg.MaxLen"], apart := false }
def LinesAppendsSaid : Prop := linesAppendsRow.holds Try.pinned (OpenSpec.ofChange linesAppendsSpec)

/-- ITS FALSE NEIGHBOUR: 'it returns false'. Refute it at one input. -/
def linesAppendsWrong : ChangeSpec := { name := "linesAppends", fn := fun _ => fun
  | [d1, d2] => { results := [.lit (.bool false)], args := [d1, d2] }
  | _ => none }
def LinesAppendsWrongFalsely : Prop := linesAppendsRow.holds Try.pinned (OpenSpec.ofChange linesAppendsWrong)

/-- 'treemergelaw01.LinesIndents': WHATEVER THE INPUT: true; the input reads as it did. -/
def linesIndentsSpec : ChangeSpec := { name := "linesIndents", fn := fun _ => fun
  | [d] => { results := [.lit (.bool true)], args := [d] }
  | _ => none }
def linesIndentsRow : OpenClaim := { program := "ytlgjfgjbchkobaa", sum := "3da805a57a0aa9f671cdd7d972837f73b30f3eb1da15de14c1396d12f1d95206", func := "treemerge/treemergelaw01.LinesIndents", spec := "linesIndents", inPlace := ["internal/bytealg.CountString", "internal/bytealg.IndexByteString", "internal/bytealg.IndexString", "internal/abi.NoEscape", "internal/bytealg.MakeNoZero"], named := ["internal/bytealg.MaxLen"], apart := false }
def LinesIndentsSaid : Prop := linesIndentsRow.holds Try.pinned (OpenSpec.ofChange linesIndentsSpec)

/-- ITS FALSE NEIGHBOUR: 'it returns false'. Refute it at one input. -/
def linesIndentsWrong : ChangeSpec := { name := "linesIndents", fn := fun _ => fun
  | [d] => { results := [.lit (.bool false)], args := [d] }
  | _ => none }
def LinesIndentsWrongFalsely : Prop := linesIndentsRow.holds Try.pinned (OpenSpec.ofChange linesIndentsWrong)

/- THE SECOND FORM. 'bulk': how many values and letters a reading holds, each counted each time it is reached (what is shared counts as often as it is met; a slice's spare places count too). A statement '..UptoSaid' is the law's where the arguments, and the package variables that the reading takes, are together of bulk at most 1048576: NARROWER than '..Said'. Prove '..Said' where nothing that the law and all that it calls make is longer than what came in: it says more and counts as full. Else prove '..UptoSaid'. A law counts once. -/
mutual
def uptoBulk {H : Type} : DataW H → Nat
  | .lit (.string bytes) => bytes.length + 1
  | .lit _ => 1
  | .nil => 1
  | .ptr d => uptoBulk d + 1
  | .slice elems spare => uptoBulkAll elems + uptoBulkAll spare + 1
  | .agg parts => uptoBulkAll parts + 1
  | .iface _ d => uptoBulk d + 1
  | .map entries => uptoBulkEntries entries + 1
  | .held _ => 1
def uptoBulkAll {H : Type} : List (DataW H) → Nat
  | [] => 0
  | d :: r => uptoBulk d + uptoBulkAll r
def uptoBulkEntries {H : Type} : List (Lit × DataW H) → Nat
  | [] => 0
  | x :: r => uptoBulkEntry x + uptoBulkEntries r
def uptoBulkEntry {H : Type} : Lit × DataW H → Nat
  | (.string bytes, d) => bytes.length + uptoBulk d + 1
  | (_, d) => uptoBulk d + 1
 end
def uptoSmall : (H : Type) → List (DataW H) → Bool := fun _ ds => decide (uptoBulkAll ds ≤ 1048576)
def OpenSpec.upto (s : _root_.Go.ChangeSpec) : _root_.Go.OpenSpec := { _root_.Go.OpenSpec.ofChange s with cond := some uptoSmall }

/-- 'treemergelaw01.LinesSplits', WHERE WHAT IT READS IS OF BULK AT MOST 1048576: true; the input reads as it did. -/
def linesSplitsUptoRow : OpenClaim := { program := "ytlgjfgjbchkobaa", sum := "3da805a57a0aa9f671cdd7d972837f73b30f3eb1da15de14c1396d12f1d95206", func := "treemerge/treemergelaw01.LinesSplits", spec := "linesSplits", inPlace := ["internal/bytealg.CountString", "internal/bytealg.IndexByteString", "internal/bytealg.IndexString", "internal/abi.NoEscape", "internal/bytealg.MakeNoZero"], named := ["internal/bytealg.MaxLen"], apart := false, narrowed := true }
def LinesSplitsUptoSaid : Prop := linesSplitsUptoRow.holds Try.pinned (OpenSpec.upto linesSplitsSpec)

/-- 'treemergelaw01.LinesPositions', WHERE WHAT IT READS IS OF BULK AT MOST 1048576: true; the input reads as it did. -/
def linesPositionsUptoRow : OpenClaim := { program := "ytlgjfgjbchkobaa", sum := "3da805a57a0aa9f671cdd7d972837f73b30f3eb1da15de14c1396d12f1d95206", func := "treemerge/treemergelaw01.LinesPositions", spec := "linesPositions", inPlace := ["internal/bytealg.CountString", "internal/bytealg.IndexByteString", "internal/bytealg.IndexString", "internal/abi.NoEscape", "internal/bytealg.MakeNoZero"], named := ["internal/bytealg.MaxLen"], apart := false, narrowed := true }
def LinesPositionsUptoSaid : Prop := linesPositionsUptoRow.holds Try.pinned (OpenSpec.upto linesPositionsSpec)

/-- 'treemergelaw01.LinesRoundTrip', WHERE WHAT IT READS IS OF BULK AT MOST 1048576: true; the input reads as it did. -/
def linesRoundTripUptoRow : OpenClaim := { program := "ytlgjfgjbchkobaa", sum := "3da805a57a0aa9f671cdd7d972837f73b30f3eb1da15de14c1396d12f1d95206", func := "treemerge/treemergelaw01.LinesRoundTrip", spec := "linesRoundTrip", inPlace := ["internal/abi.NoEscape", "internal/bytealg.MakeNoZero", "internal/bytealg.CountString", "internal/bytealg.IndexByteString", "internal/bytealg.IndexString"], named := ["internal/bytealg.MaxLen"], apart := false, narrowed := true }
def LinesRoundTripUptoSaid : Prop := linesRoundTripUptoRow.holds Try.pinned (OpenSpec.upto linesRoundTripSpec)

/-- 'treemergelaw01.LinesOffsets', WHERE WHAT IT READS IS OF BULK AT MOST 1048576: true; the input reads as it did. -/
def linesOffsetsUptoRow : OpenClaim := { program := "ytlgjfgjbchkobaa", sum := "3da805a57a0aa9f671cdd7d972837f73b30f3eb1da15de14c1396d12f1d95206", func := "treemerge/treemergelaw01.LinesOffsets", spec := "linesOffsets", inPlace := ["internal/bytealg.CountString", "internal/bytealg.IndexByteString", "internal/bytealg.IndexString", "internal/abi.NoEscape", "internal/bytealg.MakeNoZero"], named := ["internal/bytealg.MaxLen"], apart := false, narrowed := true }
def LinesOffsetsUptoSaid : Prop := linesOffsetsUptoRow.holds Try.pinned (OpenSpec.upto linesOffsetsSpec)

/-- 'treemergelaw01.LinesAppends', WHERE WHAT IT READS IS OF BULK AT MOST 1048576: true; the input reads as it did. -/
def linesAppendsUptoRow : OpenClaim := { program := "ytlgjfgjbchkobaa", sum := "3da805a57a0aa9f671cdd7d972837f73b30f3eb1da15de14c1396d12f1d95206", func := "treemerge/treemergelaw01.LinesAppends", spec := "linesAppends", inPlace := ["internal/bytealg.CountString", "internal/bytealg.IndexByteString", "internal/bytealg.IndexString", "internal/abi.NoEscape", "internal/bytealg.MakeNoZero"], named := ["internal/bytealg.MaxLen"], apart := false, narrowed := true }
def LinesAppendsUptoSaid : Prop := linesAppendsUptoRow.holds Try.pinned (OpenSpec.upto linesAppendsSpec)

/-- 'treemergelaw01.LinesIndents', WHERE WHAT IT READS IS OF BULK AT MOST 1048576: true; the input reads as it did. -/
def linesIndentsUptoRow : OpenClaim := { program := "ytlgjfgjbchkobaa", sum := "3da805a57a0aa9f671cdd7d972837f73b30f3eb1da15de14c1396d12f1d95206", func := "treemerge/treemergelaw01.LinesIndents", spec := "linesIndents", inPlace := ["internal/bytealg.CountString", "internal/bytealg.IndexByteString", "internal/bytealg.IndexString", "internal/abi.NoEscape", "internal/bytealg.MakeNoZero"], named := ["internal/bytealg.MaxLen"], apart := false, narrowed := true }
def LinesIndentsUptoSaid : Prop := linesIndentsUptoRow.holds Try.pinned (OpenSpec.upto linesIndentsSpec)

end Rows
end Go.Proofs.Ytlgjfgjbchkobaa
