/-
  No cell of these rows narrows 'for every input' (looked for: loops, veiled, ifaces, maps, wideKeys, modest, calm, conditions, laid).
  DERIVED. THE GIVEN ROWS OF THIS SEAT. 7 by the template 'for every input the law returns true; each argument reads behind the call as it read before'; 0 by the template 'total and deterministic' (their statements: YtcckmjknhnonmaaTotals.lean).
  GIVEN WITH THE SEED: the statements are not yours to turn. If you find one false, say at which input.
  Laid BY PROGRAM, IN A SANDBOX (cutbox-rows.mjs): the forced cells as the released guide's own fill.sh prints them over the translation e691f4321a0d173c… (all of the seat's roots in one cut). By AI agents, Wed Nov 11 2026. No macro, syntax, notation, axiom, sorry.
-/
import Derived.Test.YtcckmjknhnonmaaChecked
import GoSem.Claim
import GoSem.ClaimJoined
import GoSem.ClaimMapViews
import Derived.JoinedTies
import Derived.KernelRfl
namespace Go.Proofs.Ytcckmjknhnonmaa
/- THE CELL 'sum', in the pinned program and in every row, IS THE sha256 OF THE DUMP (.gsa) THAT YtcckmjknhnonmaaProg.lean LOADS. Nothing in Lean hashes anything: it is a label: what it is worth is what the hold of that sum in a sandbox is worth. -/
noncomputable def Try.pinned : Pinned := { name := "ytcckmjknhnonmaa", sum := "e691f4321a0d173c1338cb5249502c35b2040daec6babb0e62baa918c5cf9f24", checked := Try.checked }
namespace Rows
def none {H : Type} : Left H := { results := [], args := [] }

/-- 'treemergelaw52.AncestryChecks': WHATEVER THE INPUT: true; the input reads as it did. -/
def ancestryChecksSpec : ChangeSpec := { name := "ancestryChecks", fn := fun _ => fun
  | [d] => { results := [.lit (.bool true)], args := [d] }
  | _ => none }
def ancestryChecksRow : OpenClaim := { program := "ytcckmjknhnonmaa", sum := "e691f4321a0d173c1338cb5249502c35b2040daec6babb0e62baa918c5cf9f24", func := "treemerge/treemergelaw52.AncestryChecks", spec := "ancestryChecks", apart := false }
def AncestryChecksSaid : Prop := ancestryChecksRow.holds Try.pinned (OpenSpec.ofChange ancestryChecksSpec)

/-- ITS FALSE NEIGHBOUR: 'it returns false'. Refute it at one input. -/
def ancestryChecksWrong : ChangeSpec := { name := "ancestryChecks", fn := fun _ => fun
  | [d] => { results := [.lit (.bool false)], args := [d] }
  | _ => none }
def AncestryChecksWrongFalsely : Prop := ancestryChecksRow.holds Try.pinned (OpenSpec.ofChange ancestryChecksWrong)

/-- 'treemergelaw52.AncestryMembers': WHATEVER THE INPUT: true; the input reads as it did. -/
def ancestryMembersSpec : ChangeSpec := { name := "ancestryMembers", fn := fun _ => fun
  | [d1, d2, d3] => { results := [.lit (.bool true)], args := [d1, d2, d3] }
  | _ => none }
def ancestryMembersRow : OpenClaim := { program := "ytcckmjknhnonmaa", sum := "e691f4321a0d173c1338cb5249502c35b2040daec6babb0e62baa918c5cf9f24", func := "treemerge/treemergelaw52.AncestryMembers", spec := "ancestryMembers", apart := false }
def AncestryMembersSaid : Prop := ancestryMembersRow.holds Try.pinned (OpenSpec.ofChange ancestryMembersSpec)

/-- ITS FALSE NEIGHBOUR: 'it returns false'. Refute it at one input. -/
def ancestryMembersWrong : ChangeSpec := { name := "ancestryMembers", fn := fun _ => fun
  | [d1, d2, d3] => { results := [.lit (.bool false)], args := [d1, d2, d3] }
  | _ => none }
def AncestryMembersWrongFalsely : Prop := ancestryMembersRow.holds Try.pinned (OpenSpec.ofChange ancestryMembersWrong)

/-- 'treemergelaw52.AncestryBases': WHATEVER THE INPUT: true; the input reads as it did. -/
def ancestryBasesSpec : ChangeSpec := { name := "ancestryBases", fn := fun _ => fun
  | [d1, d2, d3] => { results := [.lit (.bool true)], args := [d1, d2, d3] }
  | _ => none }
def ancestryBasesRow : OpenClaim := { program := "ytcckmjknhnonmaa", sum := "e691f4321a0d173c1338cb5249502c35b2040daec6babb0e62baa918c5cf9f24", func := "treemerge/treemergelaw52.AncestryBases", spec := "ancestryBases", apart := false }
def AncestryBasesSaid : Prop := ancestryBasesRow.holds Try.pinned (OpenSpec.ofChange ancestryBasesSpec)

/-- ITS FALSE NEIGHBOUR: 'it returns false'. Refute it at one input. -/
def ancestryBasesWrong : ChangeSpec := { name := "ancestryBases", fn := fun _ => fun
  | [d1, d2, d3] => { results := [.lit (.bool false)], args := [d1, d2, d3] }
  | _ => none }
def AncestryBasesWrongFalsely : Prop := ancestryBasesRow.holds Try.pinned (OpenSpec.ofChange ancestryBasesWrong)

/-- 'treemergelaw52.AncestryPaths': WHATEVER THE INPUT: true; the input reads as it did. -/
def ancestryPathsSpec : ChangeSpec := { name := "ancestryPaths", fn := fun _ => fun
  | [d1, d2, d3] => { results := [.lit (.bool true)], args := [d1, d2, d3] }
  | _ => none }
def ancestryPathsRow : OpenClaim := { program := "ytcckmjknhnonmaa", sum := "e691f4321a0d173c1338cb5249502c35b2040daec6babb0e62baa918c5cf9f24", func := "treemerge/treemergelaw52.AncestryPaths", spec := "ancestryPaths", apart := false }
def AncestryPathsSaid : Prop := ancestryPathsRow.holds Try.pinned (OpenSpec.ofChange ancestryPathsSpec)

/-- ITS FALSE NEIGHBOUR: 'it returns false'. Refute it at one input. -/
def ancestryPathsWrong : ChangeSpec := { name := "ancestryPaths", fn := fun _ => fun
  | [d1, d2, d3] => { results := [.lit (.bool false)], args := [d1, d2, d3] }
  | _ => none }
def AncestryPathsWrongFalsely : Prop := ancestryPathsRow.holds Try.pinned (OpenSpec.ofChange ancestryPathsWrong)

/-- 'treemergelaw52.AncestryBase': WHATEVER THE INPUT: true; the input reads as it did. -/
def ancestryBaseSpec : ChangeSpec := { name := "ancestryBase", fn := fun _ => fun
  | [d1, d2, d3] => { results := [.lit (.bool true)], args := [d1, d2, d3] }
  | _ => none }
def ancestryBaseRow : OpenClaim := { program := "ytcckmjknhnonmaa", sum := "e691f4321a0d173c1338cb5249502c35b2040daec6babb0e62baa918c5cf9f24", func := "treemerge/treemergelaw52.AncestryBase", spec := "ancestryBase", apart := false }
def AncestryBaseSaid : Prop := ancestryBaseRow.holds Try.pinned (OpenSpec.ofChange ancestryBaseSpec)

/-- ITS FALSE NEIGHBOUR: 'it returns false'. Refute it at one input. -/
def ancestryBaseWrong : ChangeSpec := { name := "ancestryBase", fn := fun _ => fun
  | [d1, d2, d3] => { results := [.lit (.bool false)], args := [d1, d2, d3] }
  | _ => none }
def AncestryBaseWrongFalsely : Prop := ancestryBaseRow.holds Try.pinned (OpenSpec.ofChange ancestryBaseWrong)

/-- 'treemergelaw52.AncestryOrders': WHATEVER THE INPUT: true; the input reads as it did. -/
def ancestryOrdersSpec : ChangeSpec := { name := "ancestryOrders", fn := fun _ => fun
  | [d1, d2, d3, d4] => { results := [.lit (.bool true)], args := [d1, d2, d3, d4] }
  | _ => none }
def ancestryOrdersRow : OpenClaim := { program := "ytcckmjknhnonmaa", sum := "e691f4321a0d173c1338cb5249502c35b2040daec6babb0e62baa918c5cf9f24", func := "treemerge/treemergelaw52.AncestryOrders", spec := "ancestryOrders", apart := false }
def AncestryOrdersSaid : Prop := ancestryOrdersRow.holds Try.pinned (OpenSpec.ofChange ancestryOrdersSpec)

/-- ITS FALSE NEIGHBOUR: 'it returns false'. Refute it at one input. -/
def ancestryOrdersWrong : ChangeSpec := { name := "ancestryOrders", fn := fun _ => fun
  | [d1, d2, d3, d4] => { results := [.lit (.bool false)], args := [d1, d2, d3, d4] }
  | _ => none }
def AncestryOrdersWrongFalsely : Prop := ancestryOrdersRow.holds Try.pinned (OpenSpec.ofChange ancestryOrdersWrong)

/-- 'treemergelaw52.AncestryLeads': WHATEVER THE INPUT: true; the input reads as it did. -/
def ancestryLeadsSpec : ChangeSpec := { name := "ancestryLeads", fn := fun _ => fun
  | [d1, d2, d3] => { results := [.lit (.bool true)], args := [d1, d2, d3] }
  | _ => none }
def ancestryLeadsRow : OpenClaim := { program := "ytcckmjknhnonmaa", sum := "e691f4321a0d173c1338cb5249502c35b2040daec6babb0e62baa918c5cf9f24", func := "treemerge/treemergelaw52.AncestryLeads", spec := "ancestryLeads", apart := false }
def AncestryLeadsSaid : Prop := ancestryLeadsRow.holds Try.pinned (OpenSpec.ofChange ancestryLeadsSpec)

/-- ITS FALSE NEIGHBOUR: 'it returns false'. Refute it at one input. -/
def ancestryLeadsWrong : ChangeSpec := { name := "ancestryLeads", fn := fun _ => fun
  | [d1, d2, d3] => { results := [.lit (.bool false)], args := [d1, d2, d3] }
  | _ => none }
def AncestryLeadsWrongFalsely : Prop := ancestryLeadsRow.holds Try.pinned (OpenSpec.ofChange ancestryLeadsWrong)

/- THE SECOND FORM. 'bulk': how many values and letters a reading holds, each counted each time it is reached (what is shared counts as often as it is met; a slice's spare places count too). A statement '..UptoSaid' is the law's where the arguments, and the package variables that the reading takes, are together of bulk at most 1048576: NARROWER than '..Said'. Prove '..Said' where nothing that the law and all that it calls make is longer than what came in: it says more and counts as full. Else prove '..UptoSaid'. A law counts once. -/
mutual
def uptoBulk {H : Type} : DataW H → Nat
  | .lit (.string bytes) => bytes.length + 1
  | .lit _ => 1
  | .nil => 1
  | .ptr d => uptoBulk d + 1
  | .slice elems spare => uptoBulkAll elems + uptoBulkAll spare + 1
  | .agg parts => uptoBulkAll parts + 1
  | .iface _ d => uptoBulk d + 1
  | .map entries => uptoBulkEntries entries + 1
  | .held _ => 1
def uptoBulkAll {H : Type} : List (DataW H) → Nat
  | [] => 0
  | d :: r => uptoBulk d + uptoBulkAll r
def uptoBulkEntries {H : Type} : List (Lit × DataW H) → Nat
  | [] => 0
  | x :: r => uptoBulkEntry x + uptoBulkEntries r
def uptoBulkEntry {H : Type} : Lit × DataW H → Nat
  | (.string bytes, d) => bytes.length + uptoBulk d + 1
  | (_, d) => uptoBulk d + 1
 end
def uptoSmall : (H : Type) → List (DataW H) → Bool := fun _ ds => decide (uptoBulkAll ds ≤ 1048576)
def OpenSpec.upto (s : _root_.Go.ChangeSpec) : _root_.Go.OpenSpec := { _root_.Go.OpenSpec.ofChange s with cond := some uptoSmall }

/-- 'treemergelaw52.AncestryChecks', WHERE WHAT IT READS IS OF BULK AT MOST 1048576: true; the input reads as it did. -/
def ancestryChecksUptoRow : OpenClaim := { program := "ytcckmjknhnonmaa", sum := "e691f4321a0d173c1338cb5249502c35b2040daec6babb0e62baa918c5cf9f24", func := "treemerge/treemergelaw52.AncestryChecks", spec := "ancestryChecks", apart := false, narrowed := true }
def AncestryChecksUptoSaid : Prop := ancestryChecksUptoRow.holds Try.pinned (OpenSpec.upto ancestryChecksSpec)

/-- 'treemergelaw52.AncestryMembers', WHERE WHAT IT READS IS OF BULK AT MOST 1048576: true; the input reads as it did. -/
def ancestryMembersUptoRow : OpenClaim := { program := "ytcckmjknhnonmaa", sum := "e691f4321a0d173c1338cb5249502c35b2040daec6babb0e62baa918c5cf9f24", func := "treemerge/treemergelaw52.AncestryMembers", spec := "ancestryMembers", apart := false, narrowed := true }
def AncestryMembersUptoSaid : Prop := ancestryMembersUptoRow.holds Try.pinned (OpenSpec.upto ancestryMembersSpec)

/-- 'treemergelaw52.AncestryBases', WHERE WHAT IT READS IS OF BULK AT MOST 1048576: true; the input reads as it did. -/
def ancestryBasesUptoRow : OpenClaim := { program := "ytcckmjknhnonmaa", sum := "e691f4321a0d173c1338cb5249502c35b2040daec6babb0e62baa918c5cf9f24", func := "treemerge/treemergelaw52.AncestryBases", spec := "ancestryBases", apart := false, narrowed := true }
def AncestryBasesUptoSaid : Prop := ancestryBasesUptoRow.holds Try.pinned (OpenSpec.upto ancestryBasesSpec)

/-- 'treemergelaw52.AncestryPaths', WHERE WHAT IT READS IS OF BULK AT MOST 1048576: true; the input reads as it did. -/
def ancestryPathsUptoRow : OpenClaim := { program := "ytcckmjknhnonmaa", sum := "e691f4321a0d173c1338cb5249502c35b2040daec6babb0e62baa918c5cf9f24", func := "treemerge/treemergelaw52.AncestryPaths", spec := "ancestryPaths", apart := false, narrowed := true }
def AncestryPathsUptoSaid : Prop := ancestryPathsUptoRow.holds Try.pinned (OpenSpec.upto ancestryPathsSpec)

/-- 'treemergelaw52.AncestryBase', WHERE WHAT IT READS IS OF BULK AT MOST 1048576: true; the input reads as it did. -/
def ancestryBaseUptoRow : OpenClaim := { program := "ytcckmjknhnonmaa", sum := "e691f4321a0d173c1338cb5249502c35b2040daec6babb0e62baa918c5cf9f24", func := "treemerge/treemergelaw52.AncestryBase", spec := "ancestryBase", apart := false, narrowed := true }
def AncestryBaseUptoSaid : Prop := ancestryBaseUptoRow.holds Try.pinned (OpenSpec.upto ancestryBaseSpec)

/-- 'treemergelaw52.AncestryOrders', WHERE WHAT IT READS IS OF BULK AT MOST 1048576: true; the input reads as it did. -/
def ancestryOrdersUptoRow : OpenClaim := { program := "ytcckmjknhnonmaa", sum := "e691f4321a0d173c1338cb5249502c35b2040daec6babb0e62baa918c5cf9f24", func := "treemerge/treemergelaw52.AncestryOrders", spec := "ancestryOrders", apart := false, narrowed := true }
def AncestryOrdersUptoSaid : Prop := ancestryOrdersUptoRow.holds Try.pinned (OpenSpec.upto ancestryOrdersSpec)

/-- 'treemergelaw52.AncestryLeads', WHERE WHAT IT READS IS OF BULK AT MOST 1048576: true; the input reads as it did. -/
def ancestryLeadsUptoRow : OpenClaim := { program := "ytcckmjknhnonmaa", sum := "e691f4321a0d173c1338cb5249502c35b2040daec6babb0e62baa918c5cf9f24", func := "treemerge/treemergelaw52.AncestryLeads", spec := "ancestryLeads", apart := false, narrowed := true }
def AncestryLeadsUptoSaid : Prop := ancestryLeadsUptoRow.holds Try.pinned (OpenSpec.upto ancestryLeadsSpec)

end Rows
end Go.Proofs.Ytcckmjknhnonmaa
