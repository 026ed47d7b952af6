-- Written by a program of this session out of the translation. Not trusted: Lean checks it.
import Derived.Test.YtmaolpoapafjiaaProg
import Derived.Below
import Derived.Deep.Draws
import Derived.Deep.AppendLies
import Derived.Maps.AppendAt
import Derived.OwnWalk
import Derived.Laws.BytesArg
import Derived.Laws.MakeOwn
import Derived.Laws.OwnMore
import Derived.Deep.OwnRows
import Derived.Tactics
import Derived.Lib.ConvBytes
import Derived.Laws.Slices
import Derived.WalkKit
import Derived.KernelRfl
import Derived.RowKit3
import Derived.Deep.LoopGhost
import Derived.Deep.QuietTactic
import Derived.BigQuiet
import Derived.WideLaws
import Derived.Deep.DeepCutAuto
import Derived.Deep.CutBlock
import Derived.Deep.RegionHeld3
import Derived.Laws.Rows
import Derived.Lib.AppendStr
import Derived.ArgAppend
import Derived.Laws.IdiomCopy
import Derived.OrdersHeld
import Derived.Laws.BitsLemmas
import Derived.RowKit
import Derived.Test.YtmaolpoapafjiaaWWords
import Derived.Test.YtmaolpoapafjiaaWLast
import Derived.Test.YtmaolpoapafjiaaWTab
import Derived.Test.YtmaolpoapafjiaaWFour
import Derived.Test.YtmaolpoapafjiaaWQPut
import Derived.Test.YtmaolpoapafjiaaWApart
import Derived.Test.YtmaolpoapafjiaaWArr
import Derived.Test.YtmaolpoapafjiaaWZeros
import Derived.Test.YtmaolpoapafjiaaWFoot
import Derived.Test.YtmaolpoapafjiaaWKept
import Derived.Test.YtmaolpoapafjiaaWShare
import Derived.Test.YtmaolpoapafjiaaWN
import Derived.Test.YtmaolpoapafjiaaWFootNe
import Derived.Test.YtmaolpoapafjiaaWAt
import Derived.Test.YtmaolpoapafjiaaWEqStruct
import Derived.Test.YtmaolpoapafjiaaWRepsOne
import Derived.Test.YtmaolpoapafjiaaWInv
import Derived.Test.YtmaolpoapafjiaaWInvWords
import Derived.Test.YtmaolpoapafjiaaWGuard
import Derived.Test.YtmaolpoapafjiaaWNEv
import Derived.Test.YtmaolpoapafjiaaWMore
import Derived.Test.YtmaolpoapafjiaaSt
namespace Go.Proofs.Ytmaolpoapafjiaa.Pr
open Go.RowKit Go.Proofs.YtmaolpoapafjiaaW.PrintWords Go.Proofs.YtmaolpoapafjiaaW.PrintLast Go.Proofs.YtmaolpoapafjiaaW.PrintMore
attribute [local go_sem] max2_int min2_int max_two min_two max_three min_three max_four min_four   -- for this text's walks alone
set_option linter.unusedVariables false
set_option linter.unusedSimpArgs false



def errW : Option Int → Value
  | none => .nilIface
  | some c => .iface 0 (.int .i64 c)
theorem errW_none : errW none = .nilIface := rfl
theorem errW_some (c : Int) : errW (some c) = .iface 0 (.int .i64 c) := rfl

theorem info9 : (Try.prog.info? 9).map (fun i => (i.zero, i.size, i.bytes)) = some (some (.string ⟨#[]⟩), 1, 16) := by kernel_rfl
-- the values' own types

end Go.Proofs.Ytmaolpoapafjiaa.Pr
