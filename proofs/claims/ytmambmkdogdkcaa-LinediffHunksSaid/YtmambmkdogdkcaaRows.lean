/-
  No cell of these rows narrows 'for every input' (looked for: loops, veiled, ifaces, maps, wideKeys, modest, calm, conditions, laid).
  DERIVED. THE GIVEN ROWS OF THIS SEAT. 5 by the template 'for every input the law returns true; each argument reads behind the call as it read before'; 0 by the template 'total and deterministic' (their statements: YtmambmkdogdkcaaTotals.lean).
  GIVEN WITH THE SEED: the statements are not yours to turn. If you find one false, say at which input.
  Laid BY PROGRAM, IN A SANDBOX (cutbox-rows.mjs): the forced cells as the released guide's own fill.sh prints them over the translation 79c76de2ff843327… (all of the seat's roots in one cut). By AI agents, Wed Nov 11 2026. No macro, syntax, notation, axiom, sorry.
-/
import Derived.Test.YtmambmkdogdkcaaChecked
import GoSem.Claim
import GoSem.ClaimJoined
import GoSem.ClaimMapViews
import Derived.JoinedTies
import Derived.KernelRfl
namespace Go.Proofs.Ytmambmkdogdkcaa
/- THE CELL 'sum', in the pinned program and in every row, IS THE sha256 OF THE DUMP (.gsa) THAT YtmambmkdogdkcaaProg.lean LOADS. Nothing in Lean hashes anything: it is a label: what it is worth is what the hold of that sum in a sandbox is worth. -/
noncomputable def Try.pinned : Pinned := { name := "ytmambmkdogdkcaa", sum := "79c76de2ff843327d21fea447c425d4b583fc88c5b9dfddfc9a353da030d5b78", checked := Try.checked }
namespace Rows
def none {H : Type} : Left H := { results := [], args := [] }

/-- 'treemergelaw20.LinediffHunks': WHATEVER THE INPUT: true; the input reads as it did. -/
def linediffHunksSpec : ChangeSpec := { name := "linediffHunks", fn := fun _ => fun
  | [d1, d2] => { results := [.lit (.bool true)], args := [d1, d2] }
  | _ => none }
def linediffHunksRow : OpenClaim := { program := "ytmambmkdogdkcaa", sum := "79c76de2ff843327d21fea447c425d4b583fc88c5b9dfddfc9a353da030d5b78", func := "treemerge/treemergelaw20.LinediffHunks", spec := "linediffHunks", inPlace := ["internal/bytealg.CountString", "internal/bytealg.IndexByteString", "internal/bytealg.IndexString", "internal/abi.NoEscape", "internal/bytealg.MakeNoZero"], unfollowed := true, recurses := true, named := ["internal/bytealg.MaxLen"], apart := false }
def LinediffHunksSaid : Prop := linediffHunksRow.holds Try.pinned (OpenSpec.ofChange linediffHunksSpec)

/-- ITS FALSE NEIGHBOUR: 'it returns false'. Refute it at one input. -/
def linediffHunksWrong : ChangeSpec := { name := "linediffHunks", fn := fun _ => fun
  | [d1, d2] => { results := [.lit (.bool false)], args := [d1, d2] }
  | _ => none }
def LinediffHunksWrongFalsely : Prop := linediffHunksRow.holds Try.pinned (OpenSpec.ofChange linediffHunksWrong)

/-- 'treemergelaw20.LinediffTexts': WHATEVER THE INPUT: true; the input reads as it did. -/
def linediffTextsSpec : ChangeSpec := { name := "linediffTexts", fn := fun _ => fun
  | [d1, d2] => { results := [.lit (.bool true)], args := [d1, d2] }
  | _ => none }
def linediffTextsRow : OpenClaim := { program := "ytmambmkdogdkcaa", sum := "79c76de2ff843327d21fea447c425d4b583fc88c5b9dfddfc9a353da030d5b78", func := "treemerge/treemergelaw20.LinediffTexts", spec := "linediffTexts", inPlace := ["internal/bytealg.CountString", "internal/bytealg.IndexByteString", "internal/bytealg.IndexString", "internal/abi.NoEscape", "internal/bytealg.MakeNoZero"], unfollowed := true, recurses := true, named := ["internal/bytealg.MaxLen"], apart := false }
def LinediffTextsSaid : Prop := linediffTextsRow.holds Try.pinned (OpenSpec.ofChange linediffTextsSpec)

/-- ITS FALSE NEIGHBOUR: 'it returns false'. Refute it at one input. -/
def linediffTextsWrong : ChangeSpec := { name := "linediffTexts", fn := fun _ => fun
  | [d1, d2] => { results := [.lit (.bool false)], args := [d1, d2] }
  | _ => none }
def LinediffTextsWrongFalsely : Prop := linediffTextsRow.holds Try.pinned (OpenSpec.ofChange linediffTextsWrong)

/-- 'treemergelaw20.LinediffInverts': WHATEVER THE INPUT: true; the input reads as it did. -/
def linediffInvertsSpec : ChangeSpec := { name := "linediffInverts", fn := fun _ => fun
  | [d] => { results := [.lit (.bool true)], args := [d] }
  | _ => none }
def linediffInvertsRow : OpenClaim := { program := "ytmambmkdogdkcaa", sum := "79c76de2ff843327d21fea447c425d4b583fc88c5b9dfddfc9a353da030d5b78", func := "treemerge/treemergelaw20.LinediffInverts", spec := "linediffInverts", inPlace := ["internal/bytealg.CountString", "internal/bytealg.IndexByteString", "internal/bytealg.IndexString", "internal/abi.NoEscape", "internal/bytealg.MakeNoZero"], unfollowed := true, recurses := true, named := ["internal/bytealg.MaxLen"], apart := false }
def LinediffInvertsSaid : Prop := linediffInvertsRow.holds Try.pinned (OpenSpec.ofChange linediffInvertsSpec)

/-- ITS FALSE NEIGHBOUR: 'it returns false'. Refute it at one input. -/
def linediffInvertsWrong : ChangeSpec := { name := "linediffInverts", fn := fun _ => fun
  | [d] => { results := [.lit (.bool false)], args := [d] }
  | _ => none }
def LinediffInvertsWrongFalsely : Prop := linediffInvertsRow.holds Try.pinned (OpenSpec.ofChange linediffInvertsWrong)

/-- 'treemergelaw20.LinediffApplies': WHATEVER THE INPUT: true; the input reads as it did. -/
def linediffAppliesSpec : ChangeSpec := { name := "linediffApplies", fn := fun _ => fun
  | [d1, d2] => { results := [.lit (.bool true)], args := [d1, d2] }
  | _ => none }
def linediffAppliesRow : OpenClaim := { program := "ytmambmkdogdkcaa", sum := "79c76de2ff843327d21fea447c425d4b583fc88c5b9dfddfc9a353da030d5b78", func := "treemerge/treemergelaw20.LinediffApplies", spec := "linediffApplies", inPlace := ["internal/bytealg.CountString", "internal/bytealg.IndexByteString", "internal/bytealg.IndexString", "internal/abi.NoEscape", "internal/bytealg.MakeNoZero"], unfollowed := true, recurses := true, named := ["internal/bytealg.MaxLen"], apart := false }
def LinediffAppliesSaid : Prop := linediffAppliesRow.holds Try.pinned (OpenSpec.ofChange linediffAppliesSpec)

/-- ITS FALSE NEIGHBOUR: 'it returns false'. Refute it at one input. -/
def linediffAppliesWrong : ChangeSpec := { name := "linediffApplies", fn := fun _ => fun
  | [d1, d2] => { results := [.lit (.bool false)], args := [d1, d2] }
  | _ => none }
def LinediffAppliesWrongFalsely : Prop := linediffAppliesRow.holds Try.pinned (OpenSpec.ofChange linediffAppliesWrong)

/-- 'treemergelaw20.LinediffLeast': WHATEVER THE INPUT: true; the input reads as it did. -/
def linediffLeastSpec : ChangeSpec := { name := "linediffLeast", fn := fun _ => fun
  | [d1, d2] => { results := [.lit (.bool true)], args := [d1, d2] }
  | _ => none }
def linediffLeastRow : OpenClaim := { program := "ytmambmkdogdkcaa", sum := "79c76de2ff843327d21fea447c425d4b583fc88c5b9dfddfc9a353da030d5b78", func := "treemerge/treemergelaw20.LinediffLeast", spec := "linediffLeast", inPlace := ["internal/bytealg.CountString", "internal/bytealg.IndexByteString", "internal/bytealg.IndexString", "internal/abi.NoEscape", "internal/bytealg.MakeNoZero"], unfollowed := true, recurses := true, named := ["internal/bytealg.MaxLen"], apart := false }
def LinediffLeastSaid : Prop := linediffLeastRow.holds Try.pinned (OpenSpec.ofChange linediffLeastSpec)

/-- ITS FALSE NEIGHBOUR: 'it returns false'. Refute it at one input. -/
def linediffLeastWrong : ChangeSpec := { name := "linediffLeast", fn := fun _ => fun
  | [d1, d2] => { results := [.lit (.bool false)], args := [d1, d2] }
  | _ => none }
def LinediffLeastWrongFalsely : Prop := linediffLeastRow.holds Try.pinned (OpenSpec.ofChange linediffLeastWrong)

/- THE SECOND FORM. 'bulk': how many values and letters a reading holds, each counted each time it is reached (what is shared counts as often as it is met; a slice's spare places count too). A statement '..UptoSaid' is the law's where the arguments, and the package variables that the reading takes, are together of bulk at most 1048576: NARROWER than '..Said'. Prove '..Said' where nothing that the law and all that it calls make is longer than what came in: it says more and counts as full. Else prove '..UptoSaid'. A law counts once. -/
mutual
def uptoBulk {H : Type} : DataW H → Nat
  | .lit (.string bytes) => bytes.length + 1
  | .lit _ => 1
  | .nil => 1
  | .ptr d => uptoBulk d + 1
  | .slice elems spare => uptoBulkAll elems + uptoBulkAll spare + 1
  | .agg parts => uptoBulkAll parts + 1
  | .iface _ d => uptoBulk d + 1
  | .map entries => uptoBulkEntries entries + 1
  | .held _ => 1
def uptoBulkAll {H : Type} : List (DataW H) → Nat
  | [] => 0
  | d :: r => uptoBulk d + uptoBulkAll r
def uptoBulkEntries {H : Type} : List (Lit × DataW H) → Nat
  | [] => 0
  | x :: r => uptoBulkEntry x + uptoBulkEntries r
def uptoBulkEntry {H : Type} : Lit × DataW H → Nat
  | (.string bytes, d) => bytes.length + uptoBulk d + 1
  | (_, d) => uptoBulk d + 1
 end
def uptoSmall : (H : Type) → List (DataW H) → Bool := fun _ ds => decide (uptoBulkAll ds ≤ 1048576)
def OpenSpec.upto (s : _root_.Go.ChangeSpec) : _root_.Go.OpenSpec := { _root_.Go.OpenSpec.ofChange s with cond := some uptoSmall }

/-- 'treemergelaw20.LinediffHunks', WHERE WHAT IT READS IS OF BULK AT MOST 1048576: true; the input reads as it did. -/
def linediffHunksUptoRow : OpenClaim := { program := "ytmambmkdogdkcaa", sum := "79c76de2ff843327d21fea447c425d4b583fc88c5b9dfddfc9a353da030d5b78", func := "treemerge/treemergelaw20.LinediffHunks", spec := "linediffHunks", inPlace := ["internal/bytealg.CountString", "internal/bytealg.IndexByteString", "internal/bytealg.IndexString", "internal/abi.NoEscape", "internal/bytealg.MakeNoZero"], unfollowed := true, recurses := true, named := ["internal/bytealg.MaxLen"], apart := false, narrowed := true }
def LinediffHunksUptoSaid : Prop := linediffHunksUptoRow.holds Try.pinned (OpenSpec.upto linediffHunksSpec)

/-- 'treemergelaw20.LinediffTexts', WHERE WHAT IT READS IS OF BULK AT MOST 1048576: true; the input reads as it did. -/
def linediffTextsUptoRow : OpenClaim := { program := "ytmambmkdogdkcaa", sum := "79c76de2ff843327d21fea447c425d4b583fc88c5b9dfddfc9a353da030d5b78", func := "treemerge/treemergelaw20.LinediffTexts", spec := "linediffTexts", inPlace := ["internal/bytealg.CountString", "internal/bytealg.IndexByteString", "internal/bytealg.IndexString", "internal/abi.NoEscape", "internal/bytealg.MakeNoZero"], unfollowed := true, recurses := true, named := ["internal/bytealg.MaxLen"], apart := false, narrowed := true }
def LinediffTextsUptoSaid : Prop := linediffTextsUptoRow.holds Try.pinned (OpenSpec.upto linediffTextsSpec)

/-- 'treemergelaw20.LinediffInverts', WHERE WHAT IT READS IS OF BULK AT MOST 1048576: true; the input reads as it did. -/
def linediffInvertsUptoRow : OpenClaim := { program := "ytmambmkdogdkcaa", sum := "79c76de2ff843327d21fea447c425d4b583fc88c5b9dfddfc9a353da030d5b78", func := "treemerge/treemergelaw20.LinediffInverts", spec := "linediffInverts", inPlace := ["internal/bytealg.CountString", "internal/bytealg.IndexByteString", "internal/bytealg.IndexString", "internal/abi.NoEscape", "internal/bytealg.MakeNoZero"], unfollowed := true, recurses := true, named := ["internal/bytealg.MaxLen"], apart := false, narrowed := true }
def LinediffInvertsUptoSaid : Prop := linediffInvertsUptoRow.holds Try.pinned (OpenSpec.upto linediffInvertsSpec)

/-- 'treemergelaw20.LinediffApplies', WHERE WHAT IT READS IS OF BULK AT MOST 1048576: true; the input reads as it did. -/
def linediffAppliesUptoRow : OpenClaim := { program := "ytmambmkdogdkcaa", sum := "79c76de2ff843327d21fea447c425d4b583fc88c5b9dfddfc9a353da030d5b78", func := "treemerge/treemergelaw20.LinediffApplies", spec := "linediffApplies", inPlace := ["internal/bytealg.CountString", "internal/bytealg.IndexByteString", "internal/bytealg.IndexString", "internal/abi.NoEscape", "internal/bytealg.MakeNoZero"], unfollowed := true, recurses := true, named := ["internal/bytealg.MaxLen"], apart := false, narrowed := true }
def LinediffAppliesUptoSaid : Prop := linediffAppliesUptoRow.holds Try.pinned (OpenSpec.upto linediffAppliesSpec)

/-- 'treemergelaw20.LinediffLeast', WHERE WHAT IT READS IS OF BULK AT MOST 1048576: true; the input reads as it did. -/
def linediffLeastUptoRow : OpenClaim := { program := "ytmambmkdogdkcaa", sum := "79c76de2ff843327d21fea447c425d4b583fc88c5b9dfddfc9a353da030d5b78", func := "treemerge/treemergelaw20.LinediffLeast", spec := "linediffLeast", inPlace := ["internal/bytealg.CountString", "internal/bytealg.IndexByteString", "internal/bytealg.IndexString", "internal/abi.NoEscape", "internal/bytealg.MakeNoZero"], unfollowed := true, recurses := true, named := ["internal/bytealg.MaxLen"], apart := false, narrowed := true }
def LinediffLeastUptoSaid : Prop := linediffLeastUptoRow.holds Try.pinned (OpenSpec.upto linediffLeastSpec)

end Rows
end Go.Proofs.Ytmambmkdogdkcaa
