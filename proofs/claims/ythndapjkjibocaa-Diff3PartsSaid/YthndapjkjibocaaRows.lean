/-
  No cell of these rows narrows 'for every input' (looked for: loops, veiled, ifaces, maps, wideKeys, modest, calm, conditions, laid).
  DERIVED. THE GIVEN ROWS OF THIS SEAT. 7 by the template 'for every input the law returns true; each argument reads behind the call as it read before'; 0 by the template 'total and deterministic' (their statements: YthndapjkjibocaaTotals.lean).
  GIVEN WITH THE SEED: the statements are not yours to turn. If you find one false, say at which input.
  Laid BY PROGRAM, IN A SANDBOX (cutbox-rows.mjs): the forced cells as the released guide's own fill.sh prints them over the translation 361c3c3b7638cdde… (all of the seat's roots in one cut). By AI agents, Wed Nov 11 2026. No macro, syntax, notation, axiom, sorry.
-/
import Derived.Test.YthndapjkjibocaaChecked
import GoSem.Claim
import GoSem.ClaimJoined
import GoSem.ClaimMapViews
import Derived.JoinedTies
import Derived.KernelRfl
namespace Go.Proofs.Ythndapjkjibocaa
/- THE CELL 'sum', in the pinned program and in every row, IS THE sha256 OF THE DUMP (.gsa) THAT YthndapjkjibocaaProg.lean LOADS. Nothing in Lean hashes anything: it is a label: what it is worth is what the hold of that sum in a sandbox is worth. -/
noncomputable def Try.pinned : Pinned := { name := "ythndapjkjibocaa", sum := "361c3c3b7638cdde45f4cb7718b8f7951cd085eaf6cbe62f33575185af1370cb", checked := Try.checked }
namespace Rows
def none {H : Type} : Left H := { results := [], args := [] }

/-- 'treemergelaw29.Diff3Chunks': WHATEVER THE INPUT: true; the input reads as it did. -/
def diff3ChunksSpec : ChangeSpec := { name := "diff3Chunks", fn := fun _ => fun
  | [d1, d2, d3] => { results := [.lit (.bool true)], args := [d1, d2, d3] }
  | _ => none }
def diff3ChunksRow : OpenClaim := { program := "ythndapjkjibocaa", sum := "361c3c3b7638cdde45f4cb7718b8f7951cd085eaf6cbe62f33575185af1370cb", func := "treemerge/treemergelaw29.Diff3Chunks", spec := "diff3Chunks", inPlace := ["internal/bytealg.CountString", "internal/bytealg.IndexByteString", "internal/bytealg.IndexString", "internal/abi.NoEscape"], unfollowed := true, recurses := true, named := ["internal/bytealg.MaxLen"], apart := false }
def Diff3ChunksSaid : Prop := diff3ChunksRow.holds Try.pinned (OpenSpec.ofChange diff3ChunksSpec)

/-- ITS FALSE NEIGHBOUR: 'it returns false'. Refute it at one input. -/
def diff3ChunksWrong : ChangeSpec := { name := "diff3Chunks", fn := fun _ => fun
  | [d1, d2, d3] => { results := [.lit (.bool false)], args := [d1, d2, d3] }
  | _ => none }
def Diff3ChunksWrongFalsely : Prop := diff3ChunksRow.holds Try.pinned (OpenSpec.ofChange diff3ChunksWrong)

/-- 'treemergelaw29.Diff3Merges': WHATEVER THE INPUT: true; the input reads as it did. -/
def diff3MergesSpec : ChangeSpec := { name := "diff3Merges", fn := fun _ => fun
  | [d1, d2, d3] => { results := [.lit (.bool true)], args := [d1, d2, d3] }
  | _ => none }
def diff3MergesRow : OpenClaim := { program := "ythndapjkjibocaa", sum := "361c3c3b7638cdde45f4cb7718b8f7951cd085eaf6cbe62f33575185af1370cb", func := "treemerge/treemergelaw29.Diff3Merges", spec := "diff3Merges", inPlace := ["internal/bytealg.CountString", "internal/bytealg.IndexByteString", "internal/bytealg.IndexString", "internal/abi.NoEscape"], unfollowed := true, recurses := true, named := ["internal/bytealg.MaxLen"], apart := false }
def Diff3MergesSaid : Prop := diff3MergesRow.holds Try.pinned (OpenSpec.ofChange diff3MergesSpec)

/-- ITS FALSE NEIGHBOUR: 'it returns false'. Refute it at one input. -/
def diff3MergesWrong : ChangeSpec := { name := "diff3Merges", fn := fun _ => fun
  | [d1, d2, d3] => { results := [.lit (.bool false)], args := [d1, d2, d3] }
  | _ => none }
def Diff3MergesWrongFalsely : Prop := diff3MergesRow.holds Try.pinned (OpenSpec.ofChange diff3MergesWrong)

/-- 'treemergelaw29.Diff3Marked': WHATEVER THE INPUT: true; the input reads as it did. -/
def diff3MarkedSpec : ChangeSpec := { name := "diff3Marked", fn := fun _ => fun
  | [d1, d2, d3] => { results := [.lit (.bool true)], args := [d1, d2, d3] }
  | _ => none }
def diff3MarkedRow : OpenClaim := { program := "ythndapjkjibocaa", sum := "361c3c3b7638cdde45f4cb7718b8f7951cd085eaf6cbe62f33575185af1370cb", func := "treemerge/treemergelaw29.Diff3Marked", spec := "diff3Marked", inPlace := ["internal/bytealg.CountString", "internal/bytealg.IndexByteString", "internal/bytealg.IndexString", "internal/abi.NoEscape"], unfollowed := true, recurses := true, named := ["internal/bytealg.MaxLen"], apart := false }
def Diff3MarkedSaid : Prop := diff3MarkedRow.holds Try.pinned (OpenSpec.ofChange diff3MarkedSpec)

/-- ITS FALSE NEIGHBOUR: 'it returns false'. Refute it at one input. -/
def diff3MarkedWrong : ChangeSpec := { name := "diff3Marked", fn := fun _ => fun
  | [d1, d2, d3] => { results := [.lit (.bool false)], args := [d1, d2, d3] }
  | _ => none }
def Diff3MarkedWrongFalsely : Prop := diff3MarkedRow.holds Try.pinned (OpenSpec.ofChange diff3MarkedWrong)

/-- 'treemergelaw29.Diff3Sides': WHATEVER THE INPUT: true; the input reads as it did. -/
def diff3SidesSpec : ChangeSpec := { name := "diff3Sides", fn := fun _ => fun
  | [d1, d2] => { results := [.lit (.bool true)], args := [d1, d2] }
  | _ => none }
def diff3SidesRow : OpenClaim := { program := "ythndapjkjibocaa", sum := "361c3c3b7638cdde45f4cb7718b8f7951cd085eaf6cbe62f33575185af1370cb", func := "treemerge/treemergelaw29.Diff3Sides", spec := "diff3Sides", inPlace := ["internal/bytealg.CountString", "internal/bytealg.IndexByteString", "internal/bytealg.IndexString", "internal/abi.NoEscape"], unfollowed := true, recurses := true, named := ["internal/bytealg.MaxLen"], apart := false }
def Diff3SidesSaid : Prop := diff3SidesRow.holds Try.pinned (OpenSpec.ofChange diff3SidesSpec)

/-- ITS FALSE NEIGHBOUR: 'it returns false'. Refute it at one input. -/
def diff3SidesWrong : ChangeSpec := { name := "diff3Sides", fn := fun _ => fun
  | [d1, d2] => { results := [.lit (.bool false)], args := [d1, d2] }
  | _ => none }
def Diff3SidesWrongFalsely : Prop := diff3SidesRow.holds Try.pinned (OpenSpec.ofChange diff3SidesWrong)

/-- 'treemergelaw29.Diff3Turns': WHATEVER THE INPUT: true; the input reads as it did. -/
def diff3TurnsSpec : ChangeSpec := { name := "diff3Turns", fn := fun _ => fun
  | [d1, d2, d3] => { results := [.lit (.bool true)], args := [d1, d2, d3] }
  | _ => none }
def diff3TurnsRow : OpenClaim := { program := "ythndapjkjibocaa", sum := "361c3c3b7638cdde45f4cb7718b8f7951cd085eaf6cbe62f33575185af1370cb", func := "treemerge/treemergelaw29.Diff3Turns", spec := "diff3Turns", inPlace := ["internal/bytealg.CountString", "internal/bytealg.IndexByteString", "internal/bytealg.IndexString", "internal/abi.NoEscape"], unfollowed := true, recurses := true, named := ["internal/bytealg.MaxLen"], apart := false }
def Diff3TurnsSaid : Prop := diff3TurnsRow.holds Try.pinned (OpenSpec.ofChange diff3TurnsSpec)

/-- ITS FALSE NEIGHBOUR: 'it returns false'. Refute it at one input. -/
def diff3TurnsWrong : ChangeSpec := { name := "diff3Turns", fn := fun _ => fun
  | [d1, d2, d3] => { results := [.lit (.bool false)], args := [d1, d2, d3] }
  | _ => none }
def Diff3TurnsWrongFalsely : Prop := diff3TurnsRow.holds Try.pinned (OpenSpec.ofChange diff3TurnsWrong)

/-- 'treemergelaw29.Diff3Parts': WHATEVER THE INPUT: true; the input reads as it did. -/
def diff3PartsSpec : ChangeSpec := { name := "diff3Parts", fn := fun _ => fun
  | [d1, d2, d3] => { results := [.lit (.bool true)], args := [d1, d2, d3] }
  | _ => none }
def diff3PartsRow : OpenClaim := { program := "ythndapjkjibocaa", sum := "361c3c3b7638cdde45f4cb7718b8f7951cd085eaf6cbe62f33575185af1370cb", func := "treemerge/treemergelaw29.Diff3Parts", spec := "diff3Parts", inPlace := ["internal/bytealg.CountString", "internal/bytealg.IndexByteString", "internal/bytealg.IndexString", "internal/abi.NoEscape"], unfollowed := true, recurses := true, named := ["internal/bytealg.MaxLen"], apart := false }
def Diff3PartsSaid : Prop := diff3PartsRow.holds Try.pinned (OpenSpec.ofChange diff3PartsSpec)

/-- ITS FALSE NEIGHBOUR: 'it returns false'. Refute it at one input. -/
def diff3PartsWrong : ChangeSpec := { name := "diff3Parts", fn := fun _ => fun
  | [d1, d2, d3] => { results := [.lit (.bool false)], args := [d1, d2, d3] }
  | _ => none }
def Diff3PartsWrongFalsely : Prop := diff3PartsRow.holds Try.pinned (OpenSpec.ofChange diff3PartsWrong)

/-- 'treemergelaw29.Diff3Plain': WHATEVER THE INPUT: true; the input reads as it did. -/
def diff3PlainSpec : ChangeSpec := { name := "diff3Plain", fn := fun _ => fun
  | [d1, d2, d3] => { results := [.lit (.bool true)], args := [d1, d2, d3] }
  | _ => none }
def diff3PlainRow : OpenClaim := { program := "ythndapjkjibocaa", sum := "361c3c3b7638cdde45f4cb7718b8f7951cd085eaf6cbe62f33575185af1370cb", func := "treemerge/treemergelaw29.Diff3Plain", spec := "diff3Plain", inPlace := ["internal/bytealg.CountString", "internal/bytealg.IndexByteString", "internal/bytealg.IndexString", "internal/abi.NoEscape"], unfollowed := true, recurses := true, named := ["internal/bytealg.MaxLen"], apart := false }
def Diff3PlainSaid : Prop := diff3PlainRow.holds Try.pinned (OpenSpec.ofChange diff3PlainSpec)

/-- ITS FALSE NEIGHBOUR: 'it returns false'. Refute it at one input. -/
def diff3PlainWrong : ChangeSpec := { name := "diff3Plain", fn := fun _ => fun
  | [d1, d2, d3] => { results := [.lit (.bool false)], args := [d1, d2, d3] }
  | _ => none }
def Diff3PlainWrongFalsely : Prop := diff3PlainRow.holds Try.pinned (OpenSpec.ofChange diff3PlainWrong)

/- THE SECOND FORM. 'bulk': how many values and letters a reading holds, each counted each time it is reached (what is shared counts as often as it is met; a slice's spare places count too). A statement '..UptoSaid' is the law's where the arguments, and the package variables that the reading takes, are together of bulk at most 1048576: NARROWER than '..Said'. Prove '..Said' where nothing that the law and all that it calls make is longer than what came in: it says more and counts as full. Else prove '..UptoSaid'. A law counts once. -/
mutual
def uptoBulk {H : Type} : DataW H → Nat
  | .lit (.string bytes) => bytes.length + 1
  | .lit _ => 1
  | .nil => 1
  | .ptr d => uptoBulk d + 1
  | .slice elems spare => uptoBulkAll elems + uptoBulkAll spare + 1
  | .agg parts => uptoBulkAll parts + 1
  | .iface _ d => uptoBulk d + 1
  | .map entries => uptoBulkEntries entries + 1
  | .held _ => 1
def uptoBulkAll {H : Type} : List (DataW H) → Nat
  | [] => 0
  | d :: r => uptoBulk d + uptoBulkAll r
def uptoBulkEntries {H : Type} : List (Lit × DataW H) → Nat
  | [] => 0
  | x :: r => uptoBulkEntry x + uptoBulkEntries r
def uptoBulkEntry {H : Type} : Lit × DataW H → Nat
  | (.string bytes, d) => bytes.length + uptoBulk d + 1
  | (_, d) => uptoBulk d + 1
 end
def uptoSmall : (H : Type) → List (DataW H) → Bool := fun _ ds => decide (uptoBulkAll ds ≤ 1048576)
def OpenSpec.upto (s : _root_.Go.ChangeSpec) : _root_.Go.OpenSpec := { _root_.Go.OpenSpec.ofChange s with cond := some uptoSmall }

/-- 'treemergelaw29.Diff3Chunks', WHERE WHAT IT READS IS OF BULK AT MOST 1048576: true; the input reads as it did. -/
def diff3ChunksUptoRow : OpenClaim := { program := "ythndapjkjibocaa", sum := "361c3c3b7638cdde45f4cb7718b8f7951cd085eaf6cbe62f33575185af1370cb", func := "treemerge/treemergelaw29.Diff3Chunks", spec := "diff3Chunks", inPlace := ["internal/bytealg.CountString", "internal/bytealg.IndexByteString", "internal/bytealg.IndexString", "internal/abi.NoEscape"], unfollowed := true, recurses := true, named := ["internal/bytealg.MaxLen"], apart := false, narrowed := true }
def Diff3ChunksUptoSaid : Prop := diff3ChunksUptoRow.holds Try.pinned (OpenSpec.upto diff3ChunksSpec)

/-- 'treemergelaw29.Diff3Merges', WHERE WHAT IT READS IS OF BULK AT MOST 1048576: true; the input reads as it did. -/
def diff3MergesUptoRow : OpenClaim := { program := "ythndapjkjibocaa", sum := "361c3c3b7638cdde45f4cb7718b8f7951cd085eaf6cbe62f33575185af1370cb", func := "treemerge/treemergelaw29.Diff3Merges", spec := "diff3Merges", inPlace := ["internal/bytealg.CountString", "internal/bytealg.IndexByteString", "internal/bytealg.IndexString", "internal/abi.NoEscape"], unfollowed := true, recurses := true, named := ["internal/bytealg.MaxLen"], apart := false, narrowed := true }
def Diff3MergesUptoSaid : Prop := diff3MergesUptoRow.holds Try.pinned (OpenSpec.upto diff3MergesSpec)

/-- 'treemergelaw29.Diff3Marked', WHERE WHAT IT READS IS OF BULK AT MOST 1048576: true; the input reads as it did. -/
def diff3MarkedUptoRow : OpenClaim := { program := "ythndapjkjibocaa", sum := "361c3c3b7638cdde45f4cb7718b8f7951cd085eaf6cbe62f33575185af1370cb", func := "treemerge/treemergelaw29.Diff3Marked", spec := "diff3Marked", inPlace := ["internal/bytealg.CountString", "internal/bytealg.IndexByteString", "internal/bytealg.IndexString", "internal/abi.NoEscape"], unfollowed := true, recurses := true, named := ["internal/bytealg.MaxLen"], apart := false, narrowed := true }
def Diff3MarkedUptoSaid : Prop := diff3MarkedUptoRow.holds Try.pinned (OpenSpec.upto diff3MarkedSpec)

/-- 'treemergelaw29.Diff3Sides', WHERE WHAT IT READS IS OF BULK AT MOST 1048576: true; the input reads as it did. -/
def diff3SidesUptoRow : OpenClaim := { program := "ythndapjkjibocaa", sum := "361c3c3b7638cdde45f4cb7718b8f7951cd085eaf6cbe62f33575185af1370cb", func := "treemerge/treemergelaw29.Diff3Sides", spec := "diff3Sides", inPlace := ["internal/bytealg.CountString", "internal/bytealg.IndexByteString", "internal/bytealg.IndexString", "internal/abi.NoEscape"], unfollowed := true, recurses := true, named := ["internal/bytealg.MaxLen"], apart := false, narrowed := true }
def Diff3SidesUptoSaid : Prop := diff3SidesUptoRow.holds Try.pinned (OpenSpec.upto diff3SidesSpec)

/-- 'treemergelaw29.Diff3Turns', WHERE WHAT IT READS IS OF BULK AT MOST 1048576: true; the input reads as it did. -/
def diff3TurnsUptoRow : OpenClaim := { program := "ythndapjkjibocaa", sum := "361c3c3b7638cdde45f4cb7718b8f7951cd085eaf6cbe62f33575185af1370cb", func := "treemerge/treemergelaw29.Diff3Turns", spec := "diff3Turns", inPlace := ["internal/bytealg.CountString", "internal/bytealg.IndexByteString", "internal/bytealg.IndexString", "internal/abi.NoEscape"], unfollowed := true, recurses := true, named := ["internal/bytealg.MaxLen"], apart := false, narrowed := true }
def Diff3TurnsUptoSaid : Prop := diff3TurnsUptoRow.holds Try.pinned (OpenSpec.upto diff3TurnsSpec)

/-- 'treemergelaw29.Diff3Parts', WHERE WHAT IT READS IS OF BULK AT MOST 1048576: true; the input reads as it did. -/
def diff3PartsUptoRow : OpenClaim := { program := "ythndapjkjibocaa", sum := "361c3c3b7638cdde45f4cb7718b8f7951cd085eaf6cbe62f33575185af1370cb", func := "treemerge/treemergelaw29.Diff3Parts", spec := "diff3Parts", inPlace := ["internal/bytealg.CountString", "internal/bytealg.IndexByteString", "internal/bytealg.IndexString", "internal/abi.NoEscape"], unfollowed := true, recurses := true, named := ["internal/bytealg.MaxLen"], apart := false, narrowed := true }
def Diff3PartsUptoSaid : Prop := diff3PartsUptoRow.holds Try.pinned (OpenSpec.upto diff3PartsSpec)

/-- 'treemergelaw29.Diff3Plain', WHERE WHAT IT READS IS OF BULK AT MOST 1048576: true; the input reads as it did. -/
def diff3PlainUptoRow : OpenClaim := { program := "ythndapjkjibocaa", sum := "361c3c3b7638cdde45f4cb7718b8f7951cd085eaf6cbe62f33575185af1370cb", func := "treemerge/treemergelaw29.Diff3Plain", spec := "diff3Plain", inPlace := ["internal/bytealg.CountString", "internal/bytealg.IndexByteString", "internal/bytealg.IndexString", "internal/abi.NoEscape"], unfollowed := true, recurses := true, named := ["internal/bytealg.MaxLen"], apart := false, narrowed := true }
def Diff3PlainUptoSaid : Prop := diff3PlainUptoRow.holds Try.pinned (OpenSpec.upto diff3PlainSpec)

end Rows
end Go.Proofs.Ythndapjkjibocaa
