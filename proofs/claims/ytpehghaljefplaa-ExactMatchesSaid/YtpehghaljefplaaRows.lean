/-
  NARROWER THAN 'FOR EVERY INPUT', by the rows' own cells (each row's printed sentence says how): ExactDistances: loops · ExactMatches: loops · ExactLimits: loops · ExactMetric: loops · ExactKeeps: loops · ExactBounds: loops.
  DERIVED. THE GIVEN ROWS OF THIS SEAT. 6 by the template 'for every input the law returns true; each argument reads behind the call as it read before'; 0 by the template 'total and deterministic' (their statements: YtpehghaljefplaaTotals.lean).
  GIVEN WITH THE SEED: the statements are not yours to turn. If you find one false, say at which input.
  Laid BY PROGRAM, IN A SANDBOX (cutbox-rows.mjs): the forced cells as the released guide's own fill.sh prints them over the translation 00f2ba52ba3e9102… (all of the seat's roots in one cut). By AI agents, Wed Nov 11 2026. No macro, syntax, notation, axiom, sorry.
-/
import Derived.Test.YtpehghaljefplaaChecked
import GoSem.Claim
import GoSem.ClaimJoined
import GoSem.ClaimMapViews
import Derived.JoinedTies
import Derived.KernelRfl
namespace Go.Proofs.Ytpehghaljefplaa
/- THE CELL 'sum', in the pinned program and in every row, IS THE sha256 OF THE DUMP (.gsa) THAT YtpehghaljefplaaProg.lean LOADS. Nothing in Lean hashes anything: it is a label: what it is worth is what the hold of that sum in a sandbox is worth. -/
noncomputable def Try.pinned : Pinned := { name := "ytpehghaljefplaa", sum := "00f2ba52ba3e910298d30fedf2e03d8fcca804c2aee9dd1770cb4838aef05a0d", checked := Try.checked }
namespace Rows
def none {H : Type} : Left H := { results := [], args := [] }

/-- 'treemergelaw23.ExactDistances': WHATEVER THE INPUT: true; the input reads as it did. -/
def exactDistancesSpec : ChangeSpec := { name := "exactDistances", fn := fun _ => fun
  | [d1, d2] => { results := [.lit (.bool true)], args := [d1, d2] }
  | _ => none }
def exactDistancesRow : OpenClaim := { program := "ytpehghaljefplaa", sum := "00f2ba52ba3e910298d30fedf2e03d8fcca804c2aee9dd1770cb4838aef05a0d", func := "treemerge/treemergelaw23.ExactDistances", spec := "exactDistances", recurses := true, loops := true, apart := false }
def ExactDistancesSaid : Prop := exactDistancesRow.holds Try.pinned (OpenSpec.ofChange exactDistancesSpec)

/-- ITS FALSE NEIGHBOUR: 'it returns false'. Refute it at one input. -/
def exactDistancesWrong : ChangeSpec := { name := "exactDistances", fn := fun _ => fun
  | [d1, d2] => { results := [.lit (.bool false)], args := [d1, d2] }
  | _ => none }
def ExactDistancesWrongFalsely : Prop := exactDistancesRow.holds Try.pinned (OpenSpec.ofChange exactDistancesWrong)

/-- 'treemergelaw23.ExactMatches': WHATEVER THE INPUT: true; the input reads as it did. -/
def exactMatchesSpec : ChangeSpec := { name := "exactMatches", fn := fun _ => fun
  | [d1, d2] => { results := [.lit (.bool true)], args := [d1, d2] }
  | _ => none }
def exactMatchesRow : OpenClaim := { program := "ytpehghaljefplaa", sum := "00f2ba52ba3e910298d30fedf2e03d8fcca804c2aee9dd1770cb4838aef05a0d", func := "treemerge/treemergelaw23.ExactMatches", spec := "exactMatches", recurses := true, loops := true, apart := false }
def ExactMatchesSaid : Prop := exactMatchesRow.holds Try.pinned (OpenSpec.ofChange exactMatchesSpec)

/-- ITS FALSE NEIGHBOUR: 'it returns false'. Refute it at one input. -/
def exactMatchesWrong : ChangeSpec := { name := "exactMatches", fn := fun _ => fun
  | [d1, d2] => { results := [.lit (.bool false)], args := [d1, d2] }
  | _ => none }
def ExactMatchesWrongFalsely : Prop := exactMatchesRow.holds Try.pinned (OpenSpec.ofChange exactMatchesWrong)

/-- 'treemergelaw23.ExactLimits': WHATEVER THE INPUT: true; the input reads as it did. -/
def exactLimitsSpec : ChangeSpec := { name := "exactLimits", fn := fun _ => fun
  | [d1, d2] => { results := [.lit (.bool true)], args := [d1, d2] }
  | _ => none }
def exactLimitsRow : OpenClaim := { program := "ytpehghaljefplaa", sum := "00f2ba52ba3e910298d30fedf2e03d8fcca804c2aee9dd1770cb4838aef05a0d", func := "treemerge/treemergelaw23.ExactLimits", spec := "exactLimits", recurses := true, loops := true, apart := false }
def ExactLimitsSaid : Prop := exactLimitsRow.holds Try.pinned (OpenSpec.ofChange exactLimitsSpec)

/-- ITS FALSE NEIGHBOUR: 'it returns false'. Refute it at one input. -/
def exactLimitsWrong : ChangeSpec := { name := "exactLimits", fn := fun _ => fun
  | [d1, d2] => { results := [.lit (.bool false)], args := [d1, d2] }
  | _ => none }
def ExactLimitsWrongFalsely : Prop := exactLimitsRow.holds Try.pinned (OpenSpec.ofChange exactLimitsWrong)

/-- 'treemergelaw23.ExactMetric': WHATEVER THE INPUT: true; the input reads as it did. -/
def exactMetricSpec : ChangeSpec := { name := "exactMetric", fn := fun _ => fun
  | [d1, d2, d3] => { results := [.lit (.bool true)], args := [d1, d2, d3] }
  | _ => none }
def exactMetricRow : OpenClaim := { program := "ytpehghaljefplaa", sum := "00f2ba52ba3e910298d30fedf2e03d8fcca804c2aee9dd1770cb4838aef05a0d", func := "treemerge/treemergelaw23.ExactMetric", spec := "exactMetric", recurses := true, loops := true, apart := false }
def ExactMetricSaid : Prop := exactMetricRow.holds Try.pinned (OpenSpec.ofChange exactMetricSpec)

/-- ITS FALSE NEIGHBOUR: 'it returns false'. Refute it at one input. -/
def exactMetricWrong : ChangeSpec := { name := "exactMetric", fn := fun _ => fun
  | [d1, d2, d3] => { results := [.lit (.bool false)], args := [d1, d2, d3] }
  | _ => none }
def ExactMetricWrongFalsely : Prop := exactMetricRow.holds Try.pinned (OpenSpec.ofChange exactMetricWrong)

/-- 'treemergelaw23.ExactKeeps': WHATEVER THE INPUT: true; the input reads as it did. -/
def exactKeepsSpec : ChangeSpec := { name := "exactKeeps", fn := fun _ => fun
  | [d1, d2] => { results := [.lit (.bool true)], args := [d1, d2] }
  | _ => none }
def exactKeepsRow : OpenClaim := { program := "ytpehghaljefplaa", sum := "00f2ba52ba3e910298d30fedf2e03d8fcca804c2aee9dd1770cb4838aef05a0d", func := "treemerge/treemergelaw23.ExactKeeps", spec := "exactKeeps", recurses := true, loops := true, apart := false }
def ExactKeepsSaid : Prop := exactKeepsRow.holds Try.pinned (OpenSpec.ofChange exactKeepsSpec)

/-- ITS FALSE NEIGHBOUR: 'it returns false'. Refute it at one input. -/
def exactKeepsWrong : ChangeSpec := { name := "exactKeeps", fn := fun _ => fun
  | [d1, d2] => { results := [.lit (.bool false)], args := [d1, d2] }
  | _ => none }
def ExactKeepsWrongFalsely : Prop := exactKeepsRow.holds Try.pinned (OpenSpec.ofChange exactKeepsWrong)

/-- 'treemergelaw23.ExactBounds': WHATEVER THE INPUT: true; the input reads as it did. -/
def exactBoundsSpec : ChangeSpec := { name := "exactBounds", fn := fun _ => fun
  | [d1, d2] => { results := [.lit (.bool true)], args := [d1, d2] }
  | _ => none }
def exactBoundsRow : OpenClaim := { program := "ytpehghaljefplaa", sum := "00f2ba52ba3e910298d30fedf2e03d8fcca804c2aee9dd1770cb4838aef05a0d", func := "treemerge/treemergelaw23.ExactBounds", spec := "exactBounds", recurses := true, loops := true, apart := false }
def ExactBoundsSaid : Prop := exactBoundsRow.holds Try.pinned (OpenSpec.ofChange exactBoundsSpec)

/-- ITS FALSE NEIGHBOUR: 'it returns false'. Refute it at one input. -/
def exactBoundsWrong : ChangeSpec := { name := "exactBounds", fn := fun _ => fun
  | [d1, d2] => { results := [.lit (.bool false)], args := [d1, d2] }
  | _ => none }
def ExactBoundsWrongFalsely : Prop := exactBoundsRow.holds Try.pinned (OpenSpec.ofChange exactBoundsWrong)

/- THE SECOND FORM. 'bulk': how many values and letters a reading holds, each counted each time it is reached (what is shared counts as often as it is met; a slice's spare places count too). A statement '..UptoSaid' is the law's where the arguments, and the package variables that the reading takes, are together of bulk at most 1048576: NARROWER than '..Said'. Prove '..Said' where nothing that the law and all that it calls make is longer than what came in: it says more and counts as full. Else prove '..UptoSaid'. A law counts once. -/
mutual
def uptoBulk {H : Type} : DataW H → Nat
  | .lit (.string bytes) => bytes.length + 1
  | .lit _ => 1
  | .nil => 1
  | .ptr d => uptoBulk d + 1
  | .slice elems spare => uptoBulkAll elems + uptoBulkAll spare + 1
  | .agg parts => uptoBulkAll parts + 1
  | .iface _ d => uptoBulk d + 1
  | .map entries => uptoBulkEntries entries + 1
  | .held _ => 1
def uptoBulkAll {H : Type} : List (DataW H) → Nat
  | [] => 0
  | d :: r => uptoBulk d + uptoBulkAll r
def uptoBulkEntries {H : Type} : List (Lit × DataW H) → Nat
  | [] => 0
  | x :: r => uptoBulkEntry x + uptoBulkEntries r
def uptoBulkEntry {H : Type} : Lit × DataW H → Nat
  | (.string bytes, d) => bytes.length + uptoBulk d + 1
  | (_, d) => uptoBulk d + 1
 end
def uptoSmall : (H : Type) → List (DataW H) → Bool := fun _ ds => decide (uptoBulkAll ds ≤ 1048576)
def OpenSpec.upto (s : _root_.Go.ChangeSpec) : _root_.Go.OpenSpec := { _root_.Go.OpenSpec.ofChange s with cond := some uptoSmall }

/-- 'treemergelaw23.ExactDistances', WHERE WHAT IT READS IS OF BULK AT MOST 1048576: true; the input reads as it did. -/
def exactDistancesUptoRow : OpenClaim := { program := "ytpehghaljefplaa", sum := "00f2ba52ba3e910298d30fedf2e03d8fcca804c2aee9dd1770cb4838aef05a0d", func := "treemerge/treemergelaw23.ExactDistances", spec := "exactDistances", recurses := true, loops := true, apart := false, narrowed := true }
def ExactDistancesUptoSaid : Prop := exactDistancesUptoRow.holds Try.pinned (OpenSpec.upto exactDistancesSpec)

/-- 'treemergelaw23.ExactMatches', WHERE WHAT IT READS IS OF BULK AT MOST 1048576: true; the input reads as it did. -/
def exactMatchesUptoRow : OpenClaim := { program := "ytpehghaljefplaa", sum := "00f2ba52ba3e910298d30fedf2e03d8fcca804c2aee9dd1770cb4838aef05a0d", func := "treemerge/treemergelaw23.ExactMatches", spec := "exactMatches", recurses := true, loops := true, apart := false, narrowed := true }
def ExactMatchesUptoSaid : Prop := exactMatchesUptoRow.holds Try.pinned (OpenSpec.upto exactMatchesSpec)

/-- 'treemergelaw23.ExactLimits', WHERE WHAT IT READS IS OF BULK AT MOST 1048576: true; the input reads as it did. -/
def exactLimitsUptoRow : OpenClaim := { program := "ytpehghaljefplaa", sum := "00f2ba52ba3e910298d30fedf2e03d8fcca804c2aee9dd1770cb4838aef05a0d", func := "treemerge/treemergelaw23.ExactLimits", spec := "exactLimits", recurses := true, loops := true, apart := false, narrowed := true }
def ExactLimitsUptoSaid : Prop := exactLimitsUptoRow.holds Try.pinned (OpenSpec.upto exactLimitsSpec)

/-- 'treemergelaw23.ExactMetric', WHERE WHAT IT READS IS OF BULK AT MOST 1048576: true; the input reads as it did. -/
def exactMetricUptoRow : OpenClaim := { program := "ytpehghaljefplaa", sum := "00f2ba52ba3e910298d30fedf2e03d8fcca804c2aee9dd1770cb4838aef05a0d", func := "treemerge/treemergelaw23.ExactMetric", spec := "exactMetric", recurses := true, loops := true, apart := false, narrowed := true }
def ExactMetricUptoSaid : Prop := exactMetricUptoRow.holds Try.pinned (OpenSpec.upto exactMetricSpec)

/-- 'treemergelaw23.ExactKeeps', WHERE WHAT IT READS IS OF BULK AT MOST 1048576: true; the input reads as it did. -/
def exactKeepsUptoRow : OpenClaim := { program := "ytpehghaljefplaa", sum := "00f2ba52ba3e910298d30fedf2e03d8fcca804c2aee9dd1770cb4838aef05a0d", func := "treemerge/treemergelaw23.ExactKeeps", spec := "exactKeeps", recurses := true, loops := true, apart := false, narrowed := true }
def ExactKeepsUptoSaid : Prop := exactKeepsUptoRow.holds Try.pinned (OpenSpec.upto exactKeepsSpec)

/-- 'treemergelaw23.ExactBounds', WHERE WHAT IT READS IS OF BULK AT MOST 1048576: true; the input reads as it did. -/
def exactBoundsUptoRow : OpenClaim := { program := "ytpehghaljefplaa", sum := "00f2ba52ba3e910298d30fedf2e03d8fcca804c2aee9dd1770cb4838aef05a0d", func := "treemerge/treemergelaw23.ExactBounds", spec := "exactBounds", recurses := true, loops := true, apart := false, narrowed := true }
def ExactBoundsUptoSaid : Prop := exactBoundsUptoRow.holds Try.pinned (OpenSpec.upto exactBoundsSpec)

end Rows
end Go.Proofs.Ytpehghaljefplaa
