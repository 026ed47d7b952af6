/-
  NARROWER THAN 'FOR EVERY INPUT', by the rows' own cells (each row's printed sentence says how): TreeSizes: loops · TreeTables: loops · TreeCompares: loops · TreeRows: loops · TreeNumbers: loops · TreeRelates: loops.
  DERIVED. THE GIVEN ROWS OF THIS SEAT. 7 by the template 'for every input the law returns true; each argument reads behind the call as it read before'; 0 by the template 'total and deterministic' (their statements: YtgpnalhgkbfheaaTotals.lean).
  GIVEN WITH THE SEED: the statements are not yours to turn. If you find one false, say at which input.
  Laid BY PROGRAM, IN A SANDBOX (cutbox-rows.mjs): the forced cells as the released guide's own fill.sh prints them over the translation 920bbb364f092254… (all of the seat's roots in one cut). By AI agents, Wed Nov 11 2026. No macro, syntax, notation, axiom, sorry.
-/
import Derived.Test.YtgpnalhgkbfheaaChecked
import GoSem.Claim
import GoSem.ClaimJoined
import GoSem.ClaimMapViews
import Derived.JoinedTies
import Derived.KernelRfl
namespace Go.Proofs.Ytgpnalhgkbfheaa
/- THE CELL 'sum', in the pinned program and in every row, IS THE sha256 OF THE DUMP (.gsa) THAT YtgpnalhgkbfheaaProg.lean LOADS. Nothing in Lean hashes anything: it is a label: what it is worth is what the hold of that sum in a sandbox is worth. -/
noncomputable def Try.pinned : Pinned := { name := "ytgpnalhgkbfheaa", sum := "920bbb364f0922547f20d9a5687ac364a31341860e0bcd486b1f85dffbb17ec6", checked := Try.checked }
namespace Rows
def none {H : Type} : Left H := { results := [], args := [] }

/-- 'treemergelaw06.TreeSizes': WHATEVER THE INPUT: true; the input reads as it did. -/
def treeSizesSpec : ChangeSpec := { name := "treeSizes", fn := fun _ => fun
  | [d1, d2] => { results := [.lit (.bool true)], args := [d1, d2] }
  | _ => none }
def treeSizesRow : OpenClaim := { program := "ytgpnalhgkbfheaa", sum := "920bbb364f0922547f20d9a5687ac364a31341860e0bcd486b1f85dffbb17ec6", func := "treemerge/treemergelaw06.TreeSizes", spec := "treeSizes", recurses := true, loops := true, apart := false }
def TreeSizesSaid : Prop := treeSizesRow.holds Try.pinned (OpenSpec.ofChange treeSizesSpec)

/-- ITS FALSE NEIGHBOUR: 'it returns false'. Refute it at one input. -/
def treeSizesWrong : ChangeSpec := { name := "treeSizes", fn := fun _ => fun
  | [d1, d2] => { results := [.lit (.bool false)], args := [d1, d2] }
  | _ => none }
def TreeSizesWrongFalsely : Prop := treeSizesRow.holds Try.pinned (OpenSpec.ofChange treeSizesWrong)

/-- 'treemergelaw06.TreeTables': WHATEVER THE INPUT: true; the input reads as it did. -/
def treeTablesSpec : ChangeSpec := { name := "treeTables", fn := fun _ => fun
  | [d] => { results := [.lit (.bool true)], args := [d] }
  | _ => none }
def treeTablesRow : OpenClaim := { program := "ytgpnalhgkbfheaa", sum := "920bbb364f0922547f20d9a5687ac364a31341860e0bcd486b1f85dffbb17ec6", func := "treemerge/treemergelaw06.TreeTables", spec := "treeTables", recurses := true, loops := true, apart := false }
def TreeTablesSaid : Prop := treeTablesRow.holds Try.pinned (OpenSpec.ofChange treeTablesSpec)

/-- ITS FALSE NEIGHBOUR: 'it returns false'. Refute it at one input. -/
def treeTablesWrong : ChangeSpec := { name := "treeTables", fn := fun _ => fun
  | [d] => { results := [.lit (.bool false)], args := [d] }
  | _ => none }
def TreeTablesWrongFalsely : Prop := treeTablesRow.holds Try.pinned (OpenSpec.ofChange treeTablesWrong)

/-- 'treemergelaw06.TreeBuilds': WHATEVER THE INPUT: true; the input reads as it did. -/
def treeBuildsSpec : ChangeSpec := { name := "treeBuilds", fn := fun _ => fun
  | [d] => { results := [.lit (.bool true)], args := [d] }
  | _ => none }
def treeBuildsRow : OpenClaim := { program := "ytgpnalhgkbfheaa", sum := "920bbb364f0922547f20d9a5687ac364a31341860e0bcd486b1f85dffbb17ec6", func := "treemerge/treemergelaw06.TreeBuilds", spec := "treeBuilds", recurses := true, apart := false }
def TreeBuildsSaid : Prop := treeBuildsRow.holds Try.pinned (OpenSpec.ofChange treeBuildsSpec)

/-- ITS FALSE NEIGHBOUR: 'it returns false'. Refute it at one input. -/
def treeBuildsWrong : ChangeSpec := { name := "treeBuilds", fn := fun _ => fun
  | [d] => { results := [.lit (.bool false)], args := [d] }
  | _ => none }
def TreeBuildsWrongFalsely : Prop := treeBuildsRow.holds Try.pinned (OpenSpec.ofChange treeBuildsWrong)

/-- 'treemergelaw06.TreeCompares': WHATEVER THE INPUT: true; the input reads as it did. -/
def treeComparesSpec : ChangeSpec := { name := "treeCompares", fn := fun _ => fun
  | [d1, d2] => { results := [.lit (.bool true)], args := [d1, d2] }
  | _ => none }
def treeComparesRow : OpenClaim := { program := "ytgpnalhgkbfheaa", sum := "920bbb364f0922547f20d9a5687ac364a31341860e0bcd486b1f85dffbb17ec6", func := "treemerge/treemergelaw06.TreeCompares", spec := "treeCompares", recurses := true, loops := true, apart := false }
def TreeComparesSaid : Prop := treeComparesRow.holds Try.pinned (OpenSpec.ofChange treeComparesSpec)

/-- ITS FALSE NEIGHBOUR: 'it returns false'. Refute it at one input. -/
def treeComparesWrong : ChangeSpec := { name := "treeCompares", fn := fun _ => fun
  | [d1, d2] => { results := [.lit (.bool false)], args := [d1, d2] }
  | _ => none }
def TreeComparesWrongFalsely : Prop := treeComparesRow.holds Try.pinned (OpenSpec.ofChange treeComparesWrong)

/-- 'treemergelaw06.TreeRows': WHATEVER THE INPUT: true; the input reads as it did. -/
def treeRowsSpec : ChangeSpec := { name := "treeRows", fn := fun _ => fun
  | [d1, d2] => { results := [.lit (.bool true)], args := [d1, d2] }
  | _ => none }
def treeRowsRow : OpenClaim := { program := "ytgpnalhgkbfheaa", sum := "920bbb364f0922547f20d9a5687ac364a31341860e0bcd486b1f85dffbb17ec6", func := "treemerge/treemergelaw06.TreeRows", spec := "treeRows", recurses := true, loops := true, apart := false }
def TreeRowsSaid : Prop := treeRowsRow.holds Try.pinned (OpenSpec.ofChange treeRowsSpec)

/-- ITS FALSE NEIGHBOUR: 'it returns false'. Refute it at one input. -/
def treeRowsWrong : ChangeSpec := { name := "treeRows", fn := fun _ => fun
  | [d1, d2] => { results := [.lit (.bool false)], args := [d1, d2] }
  | _ => none }
def TreeRowsWrongFalsely : Prop := treeRowsRow.holds Try.pinned (OpenSpec.ofChange treeRowsWrong)

/-- 'treemergelaw06.TreeNumbers': WHATEVER THE INPUT: true; the input reads as it did. -/
def treeNumbersSpec : ChangeSpec := { name := "treeNumbers", fn := fun _ => fun
  | [d1, d2] => { results := [.lit (.bool true)], args := [d1, d2] }
  | _ => none }
def treeNumbersRow : OpenClaim := { program := "ytgpnalhgkbfheaa", sum := "920bbb364f0922547f20d9a5687ac364a31341860e0bcd486b1f85dffbb17ec6", func := "treemerge/treemergelaw06.TreeNumbers", spec := "treeNumbers", recurses := true, loops := true, apart := false }
def TreeNumbersSaid : Prop := treeNumbersRow.holds Try.pinned (OpenSpec.ofChange treeNumbersSpec)

/-- ITS FALSE NEIGHBOUR: 'it returns false'. Refute it at one input. -/
def treeNumbersWrong : ChangeSpec := { name := "treeNumbers", fn := fun _ => fun
  | [d1, d2] => { results := [.lit (.bool false)], args := [d1, d2] }
  | _ => none }
def TreeNumbersWrongFalsely : Prop := treeNumbersRow.holds Try.pinned (OpenSpec.ofChange treeNumbersWrong)

/-- 'treemergelaw06.TreeRelates': WHATEVER THE INPUT: true; the input reads as it did. -/
def treeRelatesSpec : ChangeSpec := { name := "treeRelates", fn := fun _ => fun
  | [d1, d2] => { results := [.lit (.bool true)], args := [d1, d2] }
  | _ => none }
def treeRelatesRow : OpenClaim := { program := "ytgpnalhgkbfheaa", sum := "920bbb364f0922547f20d9a5687ac364a31341860e0bcd486b1f85dffbb17ec6", func := "treemerge/treemergelaw06.TreeRelates", spec := "treeRelates", recurses := true, loops := true, apart := false }
def TreeRelatesSaid : Prop := treeRelatesRow.holds Try.pinned (OpenSpec.ofChange treeRelatesSpec)

/-- ITS FALSE NEIGHBOUR: 'it returns false'. Refute it at one input. -/
def treeRelatesWrong : ChangeSpec := { name := "treeRelates", fn := fun _ => fun
  | [d1, d2] => { results := [.lit (.bool false)], args := [d1, d2] }
  | _ => none }
def TreeRelatesWrongFalsely : Prop := treeRelatesRow.holds Try.pinned (OpenSpec.ofChange treeRelatesWrong)

/- THE SECOND FORM. 'bulk': how many values and letters a reading holds, each counted each time it is reached (what is shared counts as often as it is met; a slice's spare places count too). A statement '..UptoSaid' is the law's where the arguments, and the package variables that the reading takes, are together of bulk at most 1048576: NARROWER than '..Said'. Prove '..Said' where nothing that the law and all that it calls make is longer than what came in: it says more and counts as full. Else prove '..UptoSaid'. A law counts once. -/
mutual
def uptoBulk {H : Type} : DataW H → Nat
  | .lit (.string bytes) => bytes.length + 1
  | .lit _ => 1
  | .nil => 1
  | .ptr d => uptoBulk d + 1
  | .slice elems spare => uptoBulkAll elems + uptoBulkAll spare + 1
  | .agg parts => uptoBulkAll parts + 1
  | .iface _ d => uptoBulk d + 1
  | .map entries => uptoBulkEntries entries + 1
  | .held _ => 1
def uptoBulkAll {H : Type} : List (DataW H) → Nat
  | [] => 0
  | d :: r => uptoBulk d + uptoBulkAll r
def uptoBulkEntries {H : Type} : List (Lit × DataW H) → Nat
  | [] => 0
  | x :: r => uptoBulkEntry x + uptoBulkEntries r
def uptoBulkEntry {H : Type} : Lit × DataW H → Nat
  | (.string bytes, d) => bytes.length + uptoBulk d + 1
  | (_, d) => uptoBulk d + 1
 end
def uptoSmall : (H : Type) → List (DataW H) → Bool := fun _ ds => decide (uptoBulkAll ds ≤ 1048576)
def OpenSpec.upto (s : _root_.Go.ChangeSpec) : _root_.Go.OpenSpec := { _root_.Go.OpenSpec.ofChange s with cond := some uptoSmall }

/-- 'treemergelaw06.TreeSizes', WHERE WHAT IT READS IS OF BULK AT MOST 1048576: true; the input reads as it did. -/
def treeSizesUptoRow : OpenClaim := { program := "ytgpnalhgkbfheaa", sum := "920bbb364f0922547f20d9a5687ac364a31341860e0bcd486b1f85dffbb17ec6", func := "treemerge/treemergelaw06.TreeSizes", spec := "treeSizes", recurses := true, loops := true, apart := false, narrowed := true }
def TreeSizesUptoSaid : Prop := treeSizesUptoRow.holds Try.pinned (OpenSpec.upto treeSizesSpec)

/-- 'treemergelaw06.TreeTables', WHERE WHAT IT READS IS OF BULK AT MOST 1048576: true; the input reads as it did. -/
def treeTablesUptoRow : OpenClaim := { program := "ytgpnalhgkbfheaa", sum := "920bbb364f0922547f20d9a5687ac364a31341860e0bcd486b1f85dffbb17ec6", func := "treemerge/treemergelaw06.TreeTables", spec := "treeTables", recurses := true, loops := true, apart := false, narrowed := true }
def TreeTablesUptoSaid : Prop := treeTablesUptoRow.holds Try.pinned (OpenSpec.upto treeTablesSpec)

/-- 'treemergelaw06.TreeBuilds', WHERE WHAT IT READS IS OF BULK AT MOST 1048576: true; the input reads as it did. -/
def treeBuildsUptoRow : OpenClaim := { program := "ytgpnalhgkbfheaa", sum := "920bbb364f0922547f20d9a5687ac364a31341860e0bcd486b1f85dffbb17ec6", func := "treemerge/treemergelaw06.TreeBuilds", spec := "treeBuilds", recurses := true, apart := false, narrowed := true }
def TreeBuildsUptoSaid : Prop := treeBuildsUptoRow.holds Try.pinned (OpenSpec.upto treeBuildsSpec)

/-- 'treemergelaw06.TreeCompares', WHERE WHAT IT READS IS OF BULK AT MOST 1048576: true; the input reads as it did. -/
def treeComparesUptoRow : OpenClaim := { program := "ytgpnalhgkbfheaa", sum := "920bbb364f0922547f20d9a5687ac364a31341860e0bcd486b1f85dffbb17ec6", func := "treemerge/treemergelaw06.TreeCompares", spec := "treeCompares", recurses := true, loops := true, apart := false, narrowed := true }
def TreeComparesUptoSaid : Prop := treeComparesUptoRow.holds Try.pinned (OpenSpec.upto treeComparesSpec)

/-- 'treemergelaw06.TreeRows', WHERE WHAT IT READS IS OF BULK AT MOST 1048576: true; the input reads as it did. -/
def treeRowsUptoRow : OpenClaim := { program := "ytgpnalhgkbfheaa", sum := "920bbb364f0922547f20d9a5687ac364a31341860e0bcd486b1f85dffbb17ec6", func := "treemerge/treemergelaw06.TreeRows", spec := "treeRows", recurses := true, loops := true, apart := false, narrowed := true }
def TreeRowsUptoSaid : Prop := treeRowsUptoRow.holds Try.pinned (OpenSpec.upto treeRowsSpec)

/-- 'treemergelaw06.TreeNumbers', WHERE WHAT IT READS IS OF BULK AT MOST 1048576: true; the input reads as it did. -/
def treeNumbersUptoRow : OpenClaim := { program := "ytgpnalhgkbfheaa", sum := "920bbb364f0922547f20d9a5687ac364a31341860e0bcd486b1f85dffbb17ec6", func := "treemerge/treemergelaw06.TreeNumbers", spec := "treeNumbers", recurses := true, loops := true, apart := false, narrowed := true }
def TreeNumbersUptoSaid : Prop := treeNumbersUptoRow.holds Try.pinned (OpenSpec.upto treeNumbersSpec)

/-- 'treemergelaw06.TreeRelates', WHERE WHAT IT READS IS OF BULK AT MOST 1048576: true; the input reads as it did. -/
def treeRelatesUptoRow : OpenClaim := { program := "ytgpnalhgkbfheaa", sum := "920bbb364f0922547f20d9a5687ac364a31341860e0bcd486b1f85dffbb17ec6", func := "treemerge/treemergelaw06.TreeRelates", spec := "treeRelates", recurses := true, loops := true, apart := false, narrowed := true }
def TreeRelatesUptoSaid : Prop := treeRelatesUptoRow.holds Try.pinned (OpenSpec.upto treeRelatesSpec)

end Rows
end Go.Proofs.Ytgpnalhgkbfheaa
