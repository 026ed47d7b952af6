/-
  No cell of these rows narrows 'for every input' (looked for: loops, veiled, ifaces, maps, wideKeys, modest, calm, conditions, laid).
  DERIVED. THE GIVEN ROWS OF THIS SEAT. 5 by the template 'for every input the law returns true; each argument reads behind the call as it read before'; 0 by the template 'total and deterministic' (their statements: YtajgcpfokpmidaaTotals.lean).
  GIVEN WITH THE SEED: the statements are not yours to turn. If you find one false, say at which input.
  Laid BY PROGRAM, IN A SANDBOX (cutbox-rows.mjs): the forced cells as the released guide's own fill.sh prints them over the translation 5fa645ba8fb4197f… (all of the seat's roots in one cut). By AI agents, Wed Nov 11 2026. No macro, syntax, notation, axiom, sorry.
-/
import Derived.Test.YtajgcpfokpmidaaChecked
import GoSem.Claim
import GoSem.ClaimJoined
import GoSem.ClaimMapViews
import Derived.JoinedTies
import Derived.KernelRfl
namespace Go.Proofs.Ytajgcpfokpmidaa
/- THE CELL 'sum', in the pinned program and in every row, IS THE sha256 OF THE DUMP (.gsa) THAT YtajgcpfokpmidaaProg.lean LOADS. Nothing in Lean hashes anything: it is a label: what it is worth is what the hold of that sum in a sandbox is worth. -/
noncomputable def Try.pinned : Pinned := { name := "ytajgcpfokpmidaa", sum := "5fa645ba8fb4197fb9514297abdaddc1a5246b9718d959cf433dc57d2e4465e7", checked := Try.checked }
namespace Rows
def none {H : Type} : Left H := { results := [], args := [] }

/-- 'treemergelaw19.LcsStrings': WHATEVER THE INPUT: true; the input reads as it did. -/
def lcsStringsSpec : ChangeSpec := { name := "lcsStrings", fn := fun _ => fun
  | [d1, d2] => { results := [.lit (.bool true)], args := [d1, d2] }
  | _ => none }
def lcsStringsRow : OpenClaim := { program := "ytajgcpfokpmidaa", sum := "5fa645ba8fb4197fb9514297abdaddc1a5246b9718d959cf433dc57d2e4465e7", func := "treemerge/treemergelaw19.LcsStrings", spec := "lcsStrings", apart := false }
def LcsStringsSaid : Prop := lcsStringsRow.holds Try.pinned (OpenSpec.ofChange lcsStringsSpec)

/-- ITS FALSE NEIGHBOUR: 'it returns false'. Refute it at one input. -/
def lcsStringsWrong : ChangeSpec := { name := "lcsStrings", fn := fun _ => fun
  | [d1, d2] => { results := [.lit (.bool false)], args := [d1, d2] }
  | _ => none }
def LcsStringsWrongFalsely : Prop := lcsStringsRow.holds Try.pinned (OpenSpec.ofChange lcsStringsWrong)

/-- 'treemergelaw19.LcsInts': WHATEVER THE INPUT: true; the input reads as it did. -/
def lcsIntsSpec : ChangeSpec := { name := "lcsInts", fn := fun _ => fun
  | [d1, d2] => { results := [.lit (.bool true)], args := [d1, d2] }
  | _ => none }
def lcsIntsRow : OpenClaim := { program := "ytajgcpfokpmidaa", sum := "5fa645ba8fb4197fb9514297abdaddc1a5246b9718d959cf433dc57d2e4465e7", func := "treemerge/treemergelaw19.LcsInts", spec := "lcsInts", apart := false }
def LcsIntsSaid : Prop := lcsIntsRow.holds Try.pinned (OpenSpec.ofChange lcsIntsSpec)

/-- ITS FALSE NEIGHBOUR: 'it returns false'. Refute it at one input. -/
def lcsIntsWrong : ChangeSpec := { name := "lcsInts", fn := fun _ => fun
  | [d1, d2] => { results := [.lit (.bool false)], args := [d1, d2] }
  | _ => none }
def LcsIntsWrongFalsely : Prop := lcsIntsRow.holds Try.pinned (OpenSpec.ofChange lcsIntsWrong)

/-- 'treemergelaw19.LcsLongest': WHATEVER THE INPUT: true; the input reads as it did. -/
def lcsLongestSpec : ChangeSpec := { name := "lcsLongest", fn := fun _ => fun
  | [d1, d2] => { results := [.lit (.bool true)], args := [d1, d2] }
  | _ => none }
def lcsLongestRow : OpenClaim := { program := "ytajgcpfokpmidaa", sum := "5fa645ba8fb4197fb9514297abdaddc1a5246b9718d959cf433dc57d2e4465e7", func := "treemerge/treemergelaw19.LcsLongest", spec := "lcsLongest", apart := false }
def LcsLongestSaid : Prop := lcsLongestRow.holds Try.pinned (OpenSpec.ofChange lcsLongestSpec)

/-- ITS FALSE NEIGHBOUR: 'it returns false'. Refute it at one input. -/
def lcsLongestWrong : ChangeSpec := { name := "lcsLongest", fn := fun _ => fun
  | [d1, d2] => { results := [.lit (.bool false)], args := [d1, d2] }
  | _ => none }
def LcsLongestWrongFalsely : Prop := lcsLongestRow.holds Try.pinned (OpenSpec.ofChange lcsLongestWrong)

/-- 'treemergelaw19.LcsBegins': WHATEVER THE INPUT: true; the input reads as it did. -/
def lcsBeginsSpec : ChangeSpec := { name := "lcsBegins", fn := fun _ => fun
  | [d1, d2, d3] => { results := [.lit (.bool true)], args := [d1, d2, d3] }
  | _ => none }
def lcsBeginsRow : OpenClaim := { program := "ytajgcpfokpmidaa", sum := "5fa645ba8fb4197fb9514297abdaddc1a5246b9718d959cf433dc57d2e4465e7", func := "treemerge/treemergelaw19.LcsBegins", spec := "lcsBegins", apart := false }
def LcsBeginsSaid : Prop := lcsBeginsRow.holds Try.pinned (OpenSpec.ofChange lcsBeginsSpec)

/-- ITS FALSE NEIGHBOUR: 'it returns false'. Refute it at one input. -/
def lcsBeginsWrong : ChangeSpec := { name := "lcsBegins", fn := fun _ => fun
  | [d1, d2, d3] => { results := [.lit (.bool false)], args := [d1, d2, d3] }
  | _ => none }
def LcsBeginsWrongFalsely : Prop := lcsBeginsRow.holds Try.pinned (OpenSpec.ofChange lcsBeginsWrong)

/-- 'treemergelaw19.LcsRises': WHATEVER THE INPUT: true; the input reads as it did. -/
def lcsRisesSpec : ChangeSpec := { name := "lcsRises", fn := fun _ => fun
  | [d] => { results := [.lit (.bool true)], args := [d] }
  | _ => none }
def lcsRisesRow : OpenClaim := { program := "ytajgcpfokpmidaa", sum := "5fa645ba8fb4197fb9514297abdaddc1a5246b9718d959cf433dc57d2e4465e7", func := "treemerge/treemergelaw19.LcsRises", spec := "lcsRises", apart := false }
def LcsRisesSaid : Prop := lcsRisesRow.holds Try.pinned (OpenSpec.ofChange lcsRisesSpec)

/-- ITS FALSE NEIGHBOUR: 'it returns false'. Refute it at one input. -/
def lcsRisesWrong : ChangeSpec := { name := "lcsRises", fn := fun _ => fun
  | [d] => { results := [.lit (.bool false)], args := [d] }
  | _ => none }
def LcsRisesWrongFalsely : Prop := lcsRisesRow.holds Try.pinned (OpenSpec.ofChange lcsRisesWrong)

/- THE SECOND FORM. 'bulk': how many values and letters a reading holds, each counted each time it is reached (what is shared counts as often as it is met; a slice's spare places count too). A statement '..UptoSaid' is the law's where the arguments, and the package variables that the reading takes, are together of bulk at most 1048576: NARROWER than '..Said'. Prove '..Said' where nothing that the law and all that it calls make is longer than what came in: it says more and counts as full. Else prove '..UptoSaid'. A law counts once. -/
mutual
def uptoBulk {H : Type} : DataW H → Nat
  | .lit (.string bytes) => bytes.length + 1
  | .lit _ => 1
  | .nil => 1
  | .ptr d => uptoBulk d + 1
  | .slice elems spare => uptoBulkAll elems + uptoBulkAll spare + 1
  | .agg parts => uptoBulkAll parts + 1
  | .iface _ d => uptoBulk d + 1
  | .map entries => uptoBulkEntries entries + 1
  | .held _ => 1
def uptoBulkAll {H : Type} : List (DataW H) → Nat
  | [] => 0
  | d :: r => uptoBulk d + uptoBulkAll r
def uptoBulkEntries {H : Type} : List (Lit × DataW H) → Nat
  | [] => 0
  | x :: r => uptoBulkEntry x + uptoBulkEntries r
def uptoBulkEntry {H : Type} : Lit × DataW H → Nat
  | (.string bytes, d) => bytes.length + uptoBulk d + 1
  | (_, d) => uptoBulk d + 1
 end
def uptoSmall : (H : Type) → List (DataW H) → Bool := fun _ ds => decide (uptoBulkAll ds ≤ 1048576)
def OpenSpec.upto (s : _root_.Go.ChangeSpec) : _root_.Go.OpenSpec := { _root_.Go.OpenSpec.ofChange s with cond := some uptoSmall }

/-- 'treemergelaw19.LcsStrings', WHERE WHAT IT READS IS OF BULK AT MOST 1048576: true; the input reads as it did. -/
def lcsStringsUptoRow : OpenClaim := { program := "ytajgcpfokpmidaa", sum := "5fa645ba8fb4197fb9514297abdaddc1a5246b9718d959cf433dc57d2e4465e7", func := "treemerge/treemergelaw19.LcsStrings", spec := "lcsStrings", apart := false, narrowed := true }
def LcsStringsUptoSaid : Prop := lcsStringsUptoRow.holds Try.pinned (OpenSpec.upto lcsStringsSpec)

/-- 'treemergelaw19.LcsInts', WHERE WHAT IT READS IS OF BULK AT MOST 1048576: true; the input reads as it did. -/
def lcsIntsUptoRow : OpenClaim := { program := "ytajgcpfokpmidaa", sum := "5fa645ba8fb4197fb9514297abdaddc1a5246b9718d959cf433dc57d2e4465e7", func := "treemerge/treemergelaw19.LcsInts", spec := "lcsInts", apart := false, narrowed := true }
def LcsIntsUptoSaid : Prop := lcsIntsUptoRow.holds Try.pinned (OpenSpec.upto lcsIntsSpec)

/-- 'treemergelaw19.LcsLongest', WHERE WHAT IT READS IS OF BULK AT MOST 1048576: true; the input reads as it did. -/
def lcsLongestUptoRow : OpenClaim := { program := "ytajgcpfokpmidaa", sum := "5fa645ba8fb4197fb9514297abdaddc1a5246b9718d959cf433dc57d2e4465e7", func := "treemerge/treemergelaw19.LcsLongest", spec := "lcsLongest", apart := false, narrowed := true }
def LcsLongestUptoSaid : Prop := lcsLongestUptoRow.holds Try.pinned (OpenSpec.upto lcsLongestSpec)

/-- 'treemergelaw19.LcsBegins', WHERE WHAT IT READS IS OF BULK AT MOST 1048576: true; the input reads as it did. -/
def lcsBeginsUptoRow : OpenClaim := { program := "ytajgcpfokpmidaa", sum := "5fa645ba8fb4197fb9514297abdaddc1a5246b9718d959cf433dc57d2e4465e7", func := "treemerge/treemergelaw19.LcsBegins", spec := "lcsBegins", apart := false, narrowed := true }
def LcsBeginsUptoSaid : Prop := lcsBeginsUptoRow.holds Try.pinned (OpenSpec.upto lcsBeginsSpec)

/-- 'treemergelaw19.LcsRises', WHERE WHAT IT READS IS OF BULK AT MOST 1048576: true; the input reads as it did. -/
def lcsRisesUptoRow : OpenClaim := { program := "ytajgcpfokpmidaa", sum := "5fa645ba8fb4197fb9514297abdaddc1a5246b9718d959cf433dc57d2e4465e7", func := "treemerge/treemergelaw19.LcsRises", spec := "lcsRises", apart := false, narrowed := true }
def LcsRisesUptoSaid : Prop := lcsRisesUptoRow.holds Try.pinned (OpenSpec.upto lcsRisesSpec)

end Rows
end Go.Proofs.Ytajgcpfokpmidaa
