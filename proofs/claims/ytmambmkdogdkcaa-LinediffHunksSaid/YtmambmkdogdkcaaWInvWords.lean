/- Words of the print that this claim comes to. -/
import Derived.Test.YtmambmkdogdkcaaWInv
import Derived.Test.YtmambmkdogdkcaaWFootNe
namespace Go.Proofs.YtmambmkdogdkcaaW.PrintWords
open Go.RowKit
end Go.Proofs.YtmambmkdogdkcaaW.PrintWords
namespace Go.Proofs.YtmambmkdogdkcaaW.PrintLast
section
variable {ops : Array Oper} {a : Act} {o og : Oper} {g : Nat} {t : Tmp} {u : Bool}
end
end Go.Proofs.YtmambmkdogdkcaaW.PrintLast
