/- Words of the print that this claim comes to. -/
import Derived.Test.YthndapjkjibocaaWInv
import Derived.Test.YthndapjkjibocaaWFootNe
namespace Go.Proofs.YthndapjkjibocaaW.PrintWords
open Go.RowKit
end Go.Proofs.YthndapjkjibocaaW.PrintWords
namespace Go.Proofs.YthndapjkjibocaaW.PrintLast
section
variable {ops : Array Oper} {a : Act} {o og : Oper} {g : Nat} {t : Tmp} {u : Bool}
end
end Go.Proofs.YthndapjkjibocaaW.PrintLast
