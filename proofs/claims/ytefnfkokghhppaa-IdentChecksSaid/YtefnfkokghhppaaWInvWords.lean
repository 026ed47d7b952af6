/- Words of the print that this claim comes to. -/
import Derived.Test.YtefnfkokghhppaaWInv
import Derived.Test.YtefnfkokghhppaaWFootNe
namespace Go.Proofs.YtefnfkokghhppaaW.PrintWords
open Go.RowKit
end Go.Proofs.YtefnfkokghhppaaW.PrintWords
namespace Go.Proofs.YtefnfkokghhppaaW.PrintLast
section
variable {ops : Array Oper} {a : Act} {o og : Oper} {g : Nat} {t : Tmp} {u : Bool}
end
end Go.Proofs.YtefnfkokghhppaaW.PrintLast
