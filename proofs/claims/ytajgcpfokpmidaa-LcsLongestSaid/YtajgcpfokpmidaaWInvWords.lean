/- Words of the print that this claim comes to. -/
import Derived.Test.YtajgcpfokpmidaaWInv
import Derived.Test.YtajgcpfokpmidaaWFootNe
namespace Go.Proofs.YtajgcpfokpmidaaW.PrintWords
open Go.RowKit
end Go.Proofs.YtajgcpfokpmidaaW.PrintWords
namespace Go.Proofs.YtajgcpfokpmidaaW.PrintLast
section
variable {ops : Array Oper} {a : Act} {o og : Oper} {g : Nat} {t : Tmp} {u : Bool}
end
end Go.Proofs.YtajgcpfokpmidaaW.PrintLast
