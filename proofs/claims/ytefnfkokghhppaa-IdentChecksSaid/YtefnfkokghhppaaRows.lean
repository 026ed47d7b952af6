/-
  NARROWER THAN 'FOR EVERY INPUT', by the rows' own cells (each row's printed sentence says how): IdentAssigns: loops · IdentChecks: loops · IdentConsistent: loops · IdentTurns: loops · IdentTwice: loops.
  DERIVED. THE GIVEN ROWS OF THIS SEAT. 6 by the template 'for every input the law returns true; each argument reads behind the call as it read before'; 0 by the template 'total and deterministic' (their statements: YtefnfkokghhppaaTotals.lean).
  GIVEN WITH THE SEED: the statements are not yours to turn. If you find one false, say at which input.
  Laid BY PROGRAM, IN A SANDBOX (cutbox-rows.mjs): the forced cells as the released guide's own fill.sh prints them over the translation 5b19d6f31ac210c5… (all of the seat's roots in one cut). By AI agents, Wed Nov 11 2026. No macro, syntax, notation, axiom, sorry.
-/
import Derived.Test.YtefnfkokghhppaaChecked
import GoSem.Claim
import GoSem.ClaimJoined
import GoSem.ClaimMapViews
import Derived.JoinedTies
import Derived.KernelRfl
namespace Go.Proofs.Ytefnfkokghhppaa
/- THE CELL 'sum', in the pinned program and in every row, IS THE sha256 OF THE DUMP (.gsa) THAT YtefnfkokghhppaaProg.lean LOADS. Nothing in Lean hashes anything: it is a label: what it is worth is what the hold of that sum in a sandbox is worth. -/
noncomputable def Try.pinned : Pinned := { name := "ytefnfkokghhppaa", sum := "5b19d6f31ac210c551572c3a9c64dff245cc2eac8271c168422447bb7183192a", checked := Try.checked }
namespace Rows
def none {H : Type} : Left H := { results := [], args := [] }

/-- 'treemergelaw30.IdentAssigns': WHATEVER THE INPUT: true; the input reads as it did. -/
def identAssignsSpec : ChangeSpec := { name := "identAssigns", fn := fun _ => fun
  | [d1, d2, d3, d4, d5] => { results := [.lit (.bool true)], args := [d1, d2, d3, d4, d5] }
  | _ => none }
def identAssignsRow : OpenClaim := { program := "ytefnfkokghhppaa", sum := "5b19d6f31ac210c551572c3a9c64dff245cc2eac8271c168422447bb7183192a", func := "treemerge/treemergelaw30.IdentAssigns", spec := "identAssigns", recurses := true, loops := true, apart := false }
def IdentAssignsSaid : Prop := identAssignsRow.holds Try.pinned (OpenSpec.ofChange identAssignsSpec)

/-- ITS FALSE NEIGHBOUR: 'it returns false'. Refute it at one input. -/
def identAssignsWrong : ChangeSpec := { name := "identAssigns", fn := fun _ => fun
  | [d1, d2, d3, d4, d5] => { results := [.lit (.bool false)], args := [d1, d2, d3, d4, d5] }
  | _ => none }
def IdentAssignsWrongFalsely : Prop := identAssignsRow.holds Try.pinned (OpenSpec.ofChange identAssignsWrong)

/-- 'treemergelaw30.IdentChecks': WHATEVER THE INPUT: true; the input reads as it did. -/
def identChecksSpec : ChangeSpec := { name := "identChecks", fn := fun _ => fun
  | [d1, d2, d3, d4, d5] => { results := [.lit (.bool true)], args := [d1, d2, d3, d4, d5] }
  | _ => none }
def identChecksRow : OpenClaim := { program := "ytefnfkokghhppaa", sum := "5b19d6f31ac210c551572c3a9c64dff245cc2eac8271c168422447bb7183192a", func := "treemerge/treemergelaw30.IdentChecks", spec := "identChecks", recurses := true, loops := true, apart := false }
def IdentChecksSaid : Prop := identChecksRow.holds Try.pinned (OpenSpec.ofChange identChecksSpec)

/-- ITS FALSE NEIGHBOUR: 'it returns false'. Refute it at one input. -/
def identChecksWrong : ChangeSpec := { name := "identChecks", fn := fun _ => fun
  | [d1, d2, d3, d4, d5] => { results := [.lit (.bool false)], args := [d1, d2, d3, d4, d5] }
  | _ => none }
def IdentChecksWrongFalsely : Prop := identChecksRow.holds Try.pinned (OpenSpec.ofChange identChecksWrong)

/-- 'treemergelaw30.IdentConsistent': WHATEVER THE INPUT: true; the input reads as it did. -/
def identConsistentSpec : ChangeSpec := { name := "identConsistent", fn := fun _ => fun
  | [d1, d2, d3, d4, d5] => { results := [.lit (.bool true)], args := [d1, d2, d3, d4, d5] }
  | _ => none }
def identConsistentRow : OpenClaim := { program := "ytefnfkokghhppaa", sum := "5b19d6f31ac210c551572c3a9c64dff245cc2eac8271c168422447bb7183192a", func := "treemerge/treemergelaw30.IdentConsistent", spec := "identConsistent", recurses := true, loops := true, apart := false }
def IdentConsistentSaid : Prop := identConsistentRow.holds Try.pinned (OpenSpec.ofChange identConsistentSpec)

/-- ITS FALSE NEIGHBOUR: 'it returns false'. Refute it at one input. -/
def identConsistentWrong : ChangeSpec := { name := "identConsistent", fn := fun _ => fun
  | [d1, d2, d3, d4, d5] => { results := [.lit (.bool false)], args := [d1, d2, d3, d4, d5] }
  | _ => none }
def IdentConsistentWrongFalsely : Prop := identConsistentRow.holds Try.pinned (OpenSpec.ofChange identConsistentWrong)

/-- 'treemergelaw30.IdentTurns': WHATEVER THE INPUT: true; the input reads as it did. -/
def identTurnsSpec : ChangeSpec := { name := "identTurns", fn := fun _ => fun
  | [d1, d2, d3, d4, d5] => { results := [.lit (.bool true)], args := [d1, d2, d3, d4, d5] }
  | _ => none }
def identTurnsRow : OpenClaim := { program := "ytefnfkokghhppaa", sum := "5b19d6f31ac210c551572c3a9c64dff245cc2eac8271c168422447bb7183192a", func := "treemerge/treemergelaw30.IdentTurns", spec := "identTurns", recurses := true, loops := true, apart := false }
def IdentTurnsSaid : Prop := identTurnsRow.holds Try.pinned (OpenSpec.ofChange identTurnsSpec)

/-- ITS FALSE NEIGHBOUR: 'it returns false'. Refute it at one input. -/
def identTurnsWrong : ChangeSpec := { name := "identTurns", fn := fun _ => fun
  | [d1, d2, d3, d4, d5] => { results := [.lit (.bool false)], args := [d1, d2, d3, d4, d5] }
  | _ => none }
def IdentTurnsWrongFalsely : Prop := identTurnsRow.holds Try.pinned (OpenSpec.ofChange identTurnsWrong)

/-- 'treemergelaw30.IdentTwice': WHATEVER THE INPUT: true; the input reads as it did. -/
def identTwiceSpec : ChangeSpec := { name := "identTwice", fn := fun _ => fun
  | [d1, d2, d3] => { results := [.lit (.bool true)], args := [d1, d2, d3] }
  | _ => none }
def identTwiceRow : OpenClaim := { program := "ytefnfkokghhppaa", sum := "5b19d6f31ac210c551572c3a9c64dff245cc2eac8271c168422447bb7183192a", func := "treemerge/treemergelaw30.IdentTwice", spec := "identTwice", recurses := true, loops := true, apart := false }
def IdentTwiceSaid : Prop := identTwiceRow.holds Try.pinned (OpenSpec.ofChange identTwiceSpec)

/-- ITS FALSE NEIGHBOUR: 'it returns false'. Refute it at one input. -/
def identTwiceWrong : ChangeSpec := { name := "identTwice", fn := fun _ => fun
  | [d1, d2, d3] => { results := [.lit (.bool false)], args := [d1, d2, d3] }
  | _ => none }
def IdentTwiceWrongFalsely : Prop := identTwiceRow.holds Try.pinned (OpenSpec.ofChange identTwiceWrong)

/-- 'treemergelaw30.IdentFinds': WHATEVER THE INPUT: true; the input reads as it did. -/
def identFindsSpec : ChangeSpec := { name := "identFinds", fn := fun _ => fun
  | [d1, d2] => { results := [.lit (.bool true)], args := [d1, d2] }
  | _ => none }
def identFindsRow : OpenClaim := { program := "ytefnfkokghhppaa", sum := "5b19d6f31ac210c551572c3a9c64dff245cc2eac8271c168422447bb7183192a", func := "treemerge/treemergelaw30.IdentFinds", spec := "identFinds", recurses := true, apart := false }
def IdentFindsSaid : Prop := identFindsRow.holds Try.pinned (OpenSpec.ofChange identFindsSpec)

/-- ITS FALSE NEIGHBOUR: 'it returns false'. Refute it at one input. -/
def identFindsWrong : ChangeSpec := { name := "identFinds", fn := fun _ => fun
  | [d1, d2] => { results := [.lit (.bool false)], args := [d1, d2] }
  | _ => none }
def IdentFindsWrongFalsely : Prop := identFindsRow.holds Try.pinned (OpenSpec.ofChange identFindsWrong)

/- THE SECOND FORM. 'bulk': how many values and letters a reading holds, each counted each time it is reached (what is shared counts as often as it is met; a slice's spare places count too). A statement '..UptoSaid' is the law's where the arguments, and the package variables that the reading takes, are together of bulk at most 1048576: NARROWER than '..Said'. Prove '..Said' where nothing that the law and all that it calls make is longer than what came in: it says more and counts as full. Else prove '..UptoSaid'. A law counts once. -/
mutual
def uptoBulk {H : Type} : DataW H → Nat
  | .lit (.string bytes) => bytes.length + 1
  | .lit _ => 1
  | .nil => 1
  | .ptr d => uptoBulk d + 1
  | .slice elems spare => uptoBulkAll elems + uptoBulkAll spare + 1
  | .agg parts => uptoBulkAll parts + 1
  | .iface _ d => uptoBulk d + 1
  | .map entries => uptoBulkEntries entries + 1
  | .held _ => 1
def uptoBulkAll {H : Type} : List (DataW H) → Nat
  | [] => 0
  | d :: r => uptoBulk d + uptoBulkAll r
def uptoBulkEntries {H : Type} : List (Lit × DataW H) → Nat
  | [] => 0
  | x :: r => uptoBulkEntry x + uptoBulkEntries r
def uptoBulkEntry {H : Type} : Lit × DataW H → Nat
  | (.string bytes, d) => bytes.length + uptoBulk d + 1
  | (_, d) => uptoBulk d + 1
 end
def uptoSmall : (H : Type) → List (DataW H) → Bool := fun _ ds => decide (uptoBulkAll ds ≤ 1048576)
def OpenSpec.upto (s : _root_.Go.ChangeSpec) : _root_.Go.OpenSpec := { _root_.Go.OpenSpec.ofChange s with cond := some uptoSmall }

/-- 'treemergelaw30.IdentAssigns', WHERE WHAT IT READS IS OF BULK AT MOST 1048576: true; the input reads as it did. -/
def identAssignsUptoRow : OpenClaim := { program := "ytefnfkokghhppaa", sum := "5b19d6f31ac210c551572c3a9c64dff245cc2eac8271c168422447bb7183192a", func := "treemerge/treemergelaw30.IdentAssigns", spec := "identAssigns", recurses := true, loops := true, apart := false, narrowed := true }
def IdentAssignsUptoSaid : Prop := identAssignsUptoRow.holds Try.pinned (OpenSpec.upto identAssignsSpec)

/-- 'treemergelaw30.IdentChecks', WHERE WHAT IT READS IS OF BULK AT MOST 1048576: true; the input reads as it did. -/
def identChecksUptoRow : OpenClaim := { program := "ytefnfkokghhppaa", sum := "5b19d6f31ac210c551572c3a9c64dff245cc2eac8271c168422447bb7183192a", func := "treemerge/treemergelaw30.IdentChecks", spec := "identChecks", recurses := true, loops := true, apart := false, narrowed := true }
def IdentChecksUptoSaid : Prop := identChecksUptoRow.holds Try.pinned (OpenSpec.upto identChecksSpec)

/-- 'treemergelaw30.IdentConsistent', WHERE WHAT IT READS IS OF BULK AT MOST 1048576: true; the input reads as it did. -/
def identConsistentUptoRow : OpenClaim := { program := "ytefnfkokghhppaa", sum := "5b19d6f31ac210c551572c3a9c64dff245cc2eac8271c168422447bb7183192a", func := "treemerge/treemergelaw30.IdentConsistent", spec := "identConsistent", recurses := true, loops := true, apart := false, narrowed := true }
def IdentConsistentUptoSaid : Prop := identConsistentUptoRow.holds Try.pinned (OpenSpec.upto identConsistentSpec)

/-- 'treemergelaw30.IdentTurns', WHERE WHAT IT READS IS OF BULK AT MOST 1048576: true; the input reads as it did. -/
def identTurnsUptoRow : OpenClaim := { program := "ytefnfkokghhppaa", sum := "5b19d6f31ac210c551572c3a9c64dff245cc2eac8271c168422447bb7183192a", func := "treemerge/treemergelaw30.IdentTurns", spec := "identTurns", recurses := true, loops := true, apart := false, narrowed := true }
def IdentTurnsUptoSaid : Prop := identTurnsUptoRow.holds Try.pinned (OpenSpec.upto identTurnsSpec)

/-- 'treemergelaw30.IdentTwice', WHERE WHAT IT READS IS OF BULK AT MOST 1048576: true; the input reads as it did. -/
def identTwiceUptoRow : OpenClaim := { program := "ytefnfkokghhppaa", sum := "5b19d6f31ac210c551572c3a9c64dff245cc2eac8271c168422447bb7183192a", func := "treemerge/treemergelaw30.IdentTwice", spec := "identTwice", recurses := true, loops := true, apart := false, narrowed := true }
def IdentTwiceUptoSaid : Prop := identTwiceUptoRow.holds Try.pinned (OpenSpec.upto identTwiceSpec)

/-- 'treemergelaw30.IdentFinds', WHERE WHAT IT READS IS OF BULK AT MOST 1048576: true; the input reads as it did. -/
def identFindsUptoRow : OpenClaim := { program := "ytefnfkokghhppaa", sum := "5b19d6f31ac210c551572c3a9c64dff245cc2eac8271c168422447bb7183192a", func := "treemerge/treemergelaw30.IdentFinds", spec := "identFinds", recurses := true, apart := false, narrowed := true }
def IdentFindsUptoSaid : Prop := identFindsUptoRow.holds Try.pinned (OpenSpec.upto identFindsSpec)

end Rows
end Go.Proofs.Ytefnfkokghhppaa
