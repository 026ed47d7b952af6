/- Words of the print that this claim comes to. -/
import Derived.Test.YtlgjfgjbchkobaaWInv
import Derived.Test.YtlgjfgjbchkobaaWFootNe
namespace Go.Proofs.YtlgjfgjbchkobaaW.PrintWords
open Go.RowKit
end Go.Proofs.YtlgjfgjbchkobaaW.PrintWords
namespace Go.Proofs.YtlgjfgjbchkobaaW.PrintLast
section
variable {ops : Array Oper} {a : Act} {o og : Oper} {g : Nat} {t : Tmp} {u : Bool}
end
end Go.Proofs.YtlgjfgjbchkobaaW.PrintLast
