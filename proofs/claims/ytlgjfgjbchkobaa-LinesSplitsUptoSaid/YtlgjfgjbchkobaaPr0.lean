-- Written by a program of this session out of the translation. Not trusted: Lean checks it.
import Derived.Test.YtlgjfgjbchkobaaProg
import Derived.Below
import Derived.Deep.Draws
import Derived.Deep.AppendLies
import Derived.Maps.AppendAt
import Derived.OwnWalk
import Derived.Laws.BytesArg
import Derived.Laws.MakeOwn
import Derived.Laws.OwnMore
import Derived.Deep.OwnRows
import Derived.Tactics
import Derived.Lib.ConvBytes
import Derived.Laws.Slices
import Derived.WalkKit
import Derived.KernelRfl
import Derived.RowKit3
import Derived.Deep.LoopGhost
import Derived.Deep.QuietTactic
import Derived.BigQuiet
import Derived.WideLaws
import Derived.Deep.DeepCutAuto
import Derived.Deep.CutBlock
import Derived.Deep.RegionHeld3
import Derived.Laws.Rows
import Derived.Lib.AppendStr
import Derived.ArgAppend
import Derived.Laws.IdiomCopy
import Derived.OrdersHeld
import Derived.Laws.BitsLemmas
import Derived.RowKit
import Derived.Test.YtlgjfgjbchkobaaWWords
import Derived.Test.YtlgjfgjbchkobaaWLast
import Derived.Test.YtlgjfgjbchkobaaWTab
import Derived.Test.YtlgjfgjbchkobaaWFour
import Derived.Test.YtlgjfgjbchkobaaWQPut
import Derived.Test.YtlgjfgjbchkobaaWApart
import Derived.Test.YtlgjfgjbchkobaaWArr
import Derived.Test.YtlgjfgjbchkobaaWZeros
import Derived.Test.YtlgjfgjbchkobaaWFoot
import Derived.Test.YtlgjfgjbchkobaaWKept
import Derived.Test.YtlgjfgjbchkobaaWShare
import Derived.Test.YtlgjfgjbchkobaaWN
import Derived.Test.YtlgjfgjbchkobaaWFootNe
import Derived.Test.YtlgjfgjbchkobaaWAt
import Derived.Test.YtlgjfgjbchkobaaWEqStruct
import Derived.Test.YtlgjfgjbchkobaaWRepsOne
import Derived.Test.YtlgjfgjbchkobaaWInv
import Derived.Test.YtlgjfgjbchkobaaWInvWords
import Derived.Test.YtlgjfgjbchkobaaWGuard
import Derived.Test.YtlgjfgjbchkobaaWNEv
import Derived.Test.YtlgjfgjbchkobaaWMore
import Derived.Test.YtlgjfgjbchkobaaSt
namespace Go.Proofs.Ytlgjfgjbchkobaa.Pr
open Go.RowKit Go.Proofs.YtlgjfgjbchkobaaW.PrintWords Go.Proofs.YtlgjfgjbchkobaaW.PrintLast Go.Proofs.YtlgjfgjbchkobaaW.PrintMore
attribute [local go_sem] max2_int min2_int max_two min_two max_three min_three max_four min_four   -- for this text's walks alone
set_option linter.unusedVariables false
set_option linter.unusedSimpArgs false



def errW : Option Int → Value
  | none => .nilIface
  | some c => .iface 0 (.int .i64 c)
theorem errW_none : errW none = .nilIface := rfl
theorem errW_some (c : Int) : errW (some c) = .iface 0 (.int .i64 c) := rfl

theorem info9 : (Try.prog.info? 9).map (fun i => (i.zero, i.size, i.bytes)) = some (some (.string ⟨#[]⟩), 1, 16) := by kernel_rfl
-- the values' own types

end Go.Proofs.Ytlgjfgjbchkobaa.Pr
