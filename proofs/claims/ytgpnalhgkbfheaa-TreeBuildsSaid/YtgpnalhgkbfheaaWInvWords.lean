/- Words of the print that this claim comes to. -/
import Derived.Test.YtgpnalhgkbfheaaWInv
import Derived.Test.YtgpnalhgkbfheaaWFootNe
namespace Go.Proofs.YtgpnalhgkbfheaaW.PrintWords
open Go.RowKit
end Go.Proofs.YtgpnalhgkbfheaaW.PrintWords
namespace Go.Proofs.YtgpnalhgkbfheaaW.PrintLast
section
variable {ops : Array Oper} {a : Act} {o og : Oper} {g : Nat} {t : Tmp} {u : Bool}
end
end Go.Proofs.YtgpnalhgkbfheaaW.PrintLast
