/- Words of the print that this claim comes to. -/
import Derived.Test.YtcckmjknhnonmaaWInv
import Derived.Test.YtcckmjknhnonmaaWFootNe
namespace Go.Proofs.YtcckmjknhnonmaaW.PrintWords
open Go.RowKit
end Go.Proofs.YtcckmjknhnonmaaW.PrintWords
namespace Go.Proofs.YtcckmjknhnonmaaW.PrintLast
section
variable {ops : Array Oper} {a : Act} {o og : Oper} {g : Nat} {t : Tmp} {u : Bool}
end
end Go.Proofs.YtcckmjknhnonmaaW.PrintLast
