/- Words of the print that this claim comes to. -/
import Derived.Test.YtmaolpoapafjiaaWInv
import Derived.Test.YtmaolpoapafjiaaWFootNe
namespace Go.Proofs.YtmaolpoapafjiaaW.PrintWords
open Go.RowKit
end Go.Proofs.YtmaolpoapafjiaaW.PrintWords
namespace Go.Proofs.YtmaolpoapafjiaaW.PrintLast
section
variable {ops : Array Oper} {a : Act} {o og : Oper} {g : Nat} {t : Tmp} {u : Bool}
end
end Go.Proofs.YtmaolpoapafjiaaW.PrintLast
