/-
  No cell of these rows narrows 'for every input' (looked for: loops, veiled, ifaces, maps, wideKeys, modest, calm, conditions, laid).
  DERIVED. THE GIVEN ROWS OF THIS SEAT. 6 by the template 'for every input the law returns true; each argument reads behind the call as it read before'; 0 by the template 'total and deterministic' (their statements: YtmaolpoapafjiaaTotals.lean).
  GIVEN WITH THE SEED: the statements are not yours to turn. If you find one false, say at which input.
  Laid BY PROGRAM, IN A SANDBOX (cutbox-rows.mjs): the forced cells as the released guide's own fill.sh prints them over the translation 66591b84472e1c66… (all of the seat's roots in one cut). By AI agents, Wed Nov 11 2026. No macro, syntax, notation, axiom, sorry.
-/
import Derived.Test.YtmaolpoapafjiaaChecked
import GoSem.Claim
import GoSem.ClaimJoined
import GoSem.ClaimMapViews
import Derived.JoinedTies
import Derived.KernelRfl
namespace Go.Proofs.Ytmaolpoapafjiaa
/- THE CELL 'sum', in the pinned program and in every row, IS THE sha256 OF THE DUMP (.gsa) THAT YtmaolpoapafjiaaProg.lean LOADS. Nothing in Lean hashes anything: it is a label: what it is worth is what the hold of that sum in a sandbox is worth. -/
noncomputable def Try.pinned : Pinned := { name := "ytmaolpoapafjiaa", sum := "66591b84472e1c6664e3d22d1044d8afb0dfd894f10a44a5128796a00c6add2a", checked := Try.checked }
namespace Rows
def none {H : Type} : Left H := { results := [], args := [] }

/-- 'treemergelaw04.TriviaReads': WHATEVER THE INPUT: true; the input reads as it did. -/
def triviaReadsSpec : ChangeSpec := { name := "triviaReads", fn := fun _ => fun
  | [d1, d2] => { results := [.lit (.bool true)], args := [d1, d2] }
  | _ => none }
def triviaReadsRow : OpenClaim := { program := "ytmaolpoapafjiaa", sum := "66591b84472e1c6664e3d22d1044d8afb0dfd894f10a44a5128796a00c6add2a", func := "treemerge/treemergelaw04.TriviaReads", spec := "triviaReads", inPlace := ["internal/bytealg.IndexByteString", "internal/abi.NoEscape", "internal/bytealg.MakeNoZero"], unfollowed := true, recurses := true, apart := false }
def TriviaReadsSaid : Prop := triviaReadsRow.holds Try.pinned (OpenSpec.ofChange triviaReadsSpec)

/-- ITS FALSE NEIGHBOUR: 'it returns false'. Refute it at one input. -/
def triviaReadsWrong : ChangeSpec := { name := "triviaReads", fn := fun _ => fun
  | [d1, d2] => { results := [.lit (.bool false)], args := [d1, d2] }
  | _ => none }
def TriviaReadsWrongFalsely : Prop := triviaReadsRow.holds Try.pinned (OpenSpec.ofChange triviaReadsWrong)

/-- 'treemergelaw04.TriviaShifts': WHATEVER THE INPUT: true; the input reads as it did. -/
def triviaShiftsSpec : ChangeSpec := { name := "triviaShifts", fn := fun _ => fun
  | [d1, d2] => { results := [.lit (.bool true)], args := [d1, d2] }
  | _ => none }
def triviaShiftsRow : OpenClaim := { program := "ytmaolpoapafjiaa", sum := "66591b84472e1c6664e3d22d1044d8afb0dfd894f10a44a5128796a00c6add2a", func := "treemerge/treemergelaw04.TriviaShifts", spec := "triviaShifts", inPlace := ["internal/bytealg.IndexByteString", "internal/abi.NoEscape", "internal/bytealg.MakeNoZero"], unfollowed := true, recurses := true, apart := false }
def TriviaShiftsSaid : Prop := triviaShiftsRow.holds Try.pinned (OpenSpec.ofChange triviaShiftsSpec)

/-- ITS FALSE NEIGHBOUR: 'it returns false'. Refute it at one input. -/
def triviaShiftsWrong : ChangeSpec := { name := "triviaShifts", fn := fun _ => fun
  | [d1, d2] => { results := [.lit (.bool false)], args := [d1, d2] }
  | _ => none }
def TriviaShiftsWrongFalsely : Prop := triviaShiftsRow.holds Try.pinned (OpenSpec.ofChange triviaShiftsWrong)

/-- 'treemergelaw04.TriviaJoin': WHATEVER THE INPUT: true; the input reads as it did. -/
def triviaJoinSpec : ChangeSpec := { name := "triviaJoin", fn := fun _ => fun
  | [d1, d2] => { results := [.lit (.bool true)], args := [d1, d2] }
  | _ => none }
def triviaJoinRow : OpenClaim := { program := "ytmaolpoapafjiaa", sum := "66591b84472e1c6664e3d22d1044d8afb0dfd894f10a44a5128796a00c6add2a", func := "treemerge/treemergelaw04.TriviaJoin", spec := "triviaJoin", inPlace := ["internal/bytealg.IndexByteString", "internal/abi.NoEscape", "internal/bytealg.MakeNoZero"], unfollowed := true, recurses := true, apart := false }
def TriviaJoinSaid : Prop := triviaJoinRow.holds Try.pinned (OpenSpec.ofChange triviaJoinSpec)

/-- ITS FALSE NEIGHBOUR: 'it returns false'. Refute it at one input. -/
def triviaJoinWrong : ChangeSpec := { name := "triviaJoin", fn := fun _ => fun
  | [d1, d2] => { results := [.lit (.bool false)], args := [d1, d2] }
  | _ => none }
def TriviaJoinWrongFalsely : Prop := triviaJoinRow.holds Try.pinned (OpenSpec.ofChange triviaJoinWrong)

/-- 'treemergelaw04.TriviaEnds': WHATEVER THE INPUT: true; the input reads as it did. -/
def triviaEndsSpec : ChangeSpec := { name := "triviaEnds", fn := fun _ => fun
  | [d1, d2] => { results := [.lit (.bool true)], args := [d1, d2] }
  | _ => none }
def triviaEndsRow : OpenClaim := { program := "ytmaolpoapafjiaa", sum := "66591b84472e1c6664e3d22d1044d8afb0dfd894f10a44a5128796a00c6add2a", func := "treemerge/treemergelaw04.TriviaEnds", spec := "triviaEnds", inPlace := ["internal/bytealg.IndexByteString", "internal/abi.NoEscape", "internal/bytealg.MakeNoZero"], unfollowed := true, recurses := true, apart := false }
def TriviaEndsSaid : Prop := triviaEndsRow.holds Try.pinned (OpenSpec.ofChange triviaEndsSpec)

/-- ITS FALSE NEIGHBOUR: 'it returns false'. Refute it at one input. -/
def triviaEndsWrong : ChangeSpec := { name := "triviaEnds", fn := fun _ => fun
  | [d1, d2] => { results := [.lit (.bool false)], args := [d1, d2] }
  | _ => none }
def TriviaEndsWrongFalsely : Prop := triviaEndsRow.holds Try.pinned (OpenSpec.ofChange triviaEndsWrong)

/-- 'treemergelaw04.TriviaBack': WHATEVER THE INPUT: true; the input reads as it did. -/
def triviaBackSpec : ChangeSpec := { name := "triviaBack", fn := fun _ => fun
  | [d1, d2] => { results := [.lit (.bool true)], args := [d1, d2] }
  | _ => none }
def triviaBackRow : OpenClaim := { program := "ytmaolpoapafjiaa", sum := "66591b84472e1c6664e3d22d1044d8afb0dfd894f10a44a5128796a00c6add2a", func := "treemerge/treemergelaw04.TriviaBack", spec := "triviaBack", inPlace := ["internal/bytealg.IndexByteString", "internal/abi.NoEscape", "internal/bytealg.MakeNoZero", "internal/bytealg.CountString", "internal/bytealg.IndexString"], unfollowed := true, recurses := true, named := ["internal/bytealg.MaxLen"], apart := false }
def TriviaBackSaid : Prop := triviaBackRow.holds Try.pinned (OpenSpec.ofChange triviaBackSpec)

/-- ITS FALSE NEIGHBOUR: 'it returns false'. Refute it at one input. -/
def triviaBackWrong : ChangeSpec := { name := "triviaBack", fn := fun _ => fun
  | [d1, d2] => { results := [.lit (.bool false)], args := [d1, d2] }
  | _ => none }
def TriviaBackWrongFalsely : Prop := triviaBackRow.holds Try.pinned (OpenSpec.ofChange triviaBackWrong)

/-- 'treemergelaw04.TriviaIndents': WHATEVER THE INPUT: true; the input reads as it did. -/
def triviaIndentsSpec : ChangeSpec := { name := "triviaIndents", fn := fun _ => fun
  | [d1, d2] => { results := [.lit (.bool true)], args := [d1, d2] }
  | _ => none }
def triviaIndentsRow : OpenClaim := { program := "ytmaolpoapafjiaa", sum := "66591b84472e1c6664e3d22d1044d8afb0dfd894f10a44a5128796a00c6add2a", func := "treemerge/treemergelaw04.TriviaIndents", spec := "triviaIndents", inPlace := ["internal/bytealg.IndexByteString", "internal/abi.NoEscape", "internal/bytealg.MakeNoZero", "internal/bytealg.CountString", "internal/bytealg.IndexString"], unfollowed := true, recurses := true, named := ["internal/bytealg.MaxLen"], apart := false }
def TriviaIndentsSaid : Prop := triviaIndentsRow.holds Try.pinned (OpenSpec.ofChange triviaIndentsSpec)

/-- ITS FALSE NEIGHBOUR: 'it returns false'. Refute it at one input. -/
def triviaIndentsWrong : ChangeSpec := { name := "triviaIndents", fn := fun _ => fun
  | [d1, d2] => { results := [.lit (.bool false)], args := [d1, d2] }
  | _ => none }
def TriviaIndentsWrongFalsely : Prop := triviaIndentsRow.holds Try.pinned (OpenSpec.ofChange triviaIndentsWrong)

/- THE SECOND FORM. 'bulk': how many values and letters a reading holds, each counted each time it is reached (what is shared counts as often as it is met; a slice's spare places count too). A statement '..UptoSaid' is the law's where the arguments, and the package variables that the reading takes, are together of bulk at most 1048576: NARROWER than '..Said'. Prove '..Said' where nothing that the law and all that it calls make is longer than what came in: it says more and counts as full. Else prove '..UptoSaid'. A law counts once. -/
mutual
def uptoBulk {H : Type} : DataW H → Nat
  | .lit (.string bytes) => bytes.length + 1
  | .lit _ => 1
  | .nil => 1
  | .ptr d => uptoBulk d + 1
  | .slice elems spare => uptoBulkAll elems + uptoBulkAll spare + 1
  | .agg parts => uptoBulkAll parts + 1
  | .iface _ d => uptoBulk d + 1
  | .map entries => uptoBulkEntries entries + 1
  | .held _ => 1
def uptoBulkAll {H : Type} : List (DataW H) → Nat
  | [] => 0
  | d :: r => uptoBulk d + uptoBulkAll r
def uptoBulkEntries {H : Type} : List (Lit × DataW H) → Nat
  | [] => 0
  | x :: r => uptoBulkEntry x + uptoBulkEntries r
def uptoBulkEntry {H : Type} : Lit × DataW H → Nat
  | (.string bytes, d) => bytes.length + uptoBulk d + 1
  | (_, d) => uptoBulk d + 1
 end
def uptoSmall : (H : Type) → List (DataW H) → Bool := fun _ ds => decide (uptoBulkAll ds ≤ 1048576)
def OpenSpec.upto (s : _root_.Go.ChangeSpec) : _root_.Go.OpenSpec := { _root_.Go.OpenSpec.ofChange s with cond := some uptoSmall }

/-- 'treemergelaw04.TriviaReads', WHERE WHAT IT READS IS OF BULK AT MOST 1048576: true; the input reads as it did. -/
def triviaReadsUptoRow : OpenClaim := { program := "ytmaolpoapafjiaa", sum := "66591b84472e1c6664e3d22d1044d8afb0dfd894f10a44a5128796a00c6add2a", func := "treemerge/treemergelaw04.TriviaReads", spec := "triviaReads", inPlace := ["internal/bytealg.IndexByteString", "internal/abi.NoEscape", "internal/bytealg.MakeNoZero"], unfollowed := true, recurses := true, apart := false, narrowed := true }
def TriviaReadsUptoSaid : Prop := triviaReadsUptoRow.holds Try.pinned (OpenSpec.upto triviaReadsSpec)

/-- 'treemergelaw04.TriviaShifts', WHERE WHAT IT READS IS OF BULK AT MOST 1048576: true; the input reads as it did. -/
def triviaShiftsUptoRow : OpenClaim := { program := "ytmaolpoapafjiaa", sum := "66591b84472e1c6664e3d22d1044d8afb0dfd894f10a44a5128796a00c6add2a", func := "treemerge/treemergelaw04.TriviaShifts", spec := "triviaShifts", inPlace := ["internal/bytealg.IndexByteString", "internal/abi.NoEscape", "internal/bytealg.MakeNoZero"], unfollowed := true, recurses := true, apart := false, narrowed := true }
def TriviaShiftsUptoSaid : Prop := triviaShiftsUptoRow.holds Try.pinned (OpenSpec.upto triviaShiftsSpec)

/-- 'treemergelaw04.TriviaJoin', WHERE WHAT IT READS IS OF BULK AT MOST 1048576: true; the input reads as it did. -/
def triviaJoinUptoRow : OpenClaim := { program := "ytmaolpoapafjiaa", sum := "66591b84472e1c6664e3d22d1044d8afb0dfd894f10a44a5128796a00c6add2a", func := "treemerge/treemergelaw04.TriviaJoin", spec := "triviaJoin", inPlace := ["internal/bytealg.IndexByteString", "internal/abi.NoEscape", "internal/bytealg.MakeNoZero"], unfollowed := true, recurses := true, apart := false, narrowed := true }
def TriviaJoinUptoSaid : Prop := triviaJoinUptoRow.holds Try.pinned (OpenSpec.upto triviaJoinSpec)

/-- 'treemergelaw04.TriviaEnds', WHERE WHAT IT READS IS OF BULK AT MOST 1048576: true; the input reads as it did. -/
def triviaEndsUptoRow : OpenClaim := { program := "ytmaolpoapafjiaa", sum := "66591b84472e1c6664e3d22d1044d8afb0dfd894f10a44a5128796a00c6add2a", func := "treemerge/treemergelaw04.TriviaEnds", spec := "triviaEnds", inPlace := ["internal/bytealg.IndexByteString", "internal/abi.NoEscape", "internal/bytealg.MakeNoZero"], unfollowed := true, recurses := true, apart := false, narrowed := true }
def TriviaEndsUptoSaid : Prop := triviaEndsUptoRow.holds Try.pinned (OpenSpec.upto triviaEndsSpec)

/-- 'treemergelaw04.TriviaBack', WHERE WHAT IT READS IS OF BULK AT MOST 1048576: true; the input reads as it did. -/
def triviaBackUptoRow : OpenClaim := { program := "ytmaolpoapafjiaa", sum := "66591b84472e1c6664e3d22d1044d8afb0dfd894f10a44a5128796a00c6add2a", func := "treemerge/treemergelaw04.TriviaBack", spec := "triviaBack", inPlace := ["internal/bytealg.IndexByteString", "internal/abi.NoEscape", "internal/bytealg.MakeNoZero", "internal/bytealg.CountString", "internal/bytealg.IndexString"], unfollowed := true, recurses := true, named := ["internal/bytealg.MaxLen"], apart := false, narrowed := true }
def TriviaBackUptoSaid : Prop := triviaBackUptoRow.holds Try.pinned (OpenSpec.upto triviaBackSpec)

/-- 'treemergelaw04.TriviaIndents', WHERE WHAT IT READS IS OF BULK AT MOST 1048576: true; the input reads as it did. -/
def triviaIndentsUptoRow : OpenClaim := { program := "ytmaolpoapafjiaa", sum := "66591b84472e1c6664e3d22d1044d8afb0dfd894f10a44a5128796a00c6add2a", func := "treemerge/treemergelaw04.TriviaIndents", spec := "triviaIndents", inPlace := ["internal/bytealg.IndexByteString", "internal/abi.NoEscape", "internal/bytealg.MakeNoZero", "internal/bytealg.CountString", "internal/bytealg.IndexString"], unfollowed := true, recurses := true, named := ["internal/bytealg.MaxLen"], apart := false, narrowed := true }
def TriviaIndentsUptoSaid : Prop := triviaIndentsUptoRow.holds Try.pinned (OpenSpec.upto triviaIndentsSpec)

end Rows
end Go.Proofs.Ytmaolpoapafjiaa
