/- Words of the print that this claim comes to. -/
import Derived.Test.YtpehghaljefplaaWInv
import Derived.Test.YtpehghaljefplaaWFootNe
namespace Go.Proofs.YtpehghaljefplaaW.PrintWords
open Go.RowKit
end Go.Proofs.YtpehghaljefplaaW.PrintWords
namespace Go.Proofs.YtpehghaljefplaaW.PrintLast
section
variable {ops : Array Oper} {a : Act} {o og : Oper} {g : Nat} {t : Tmp} {u : Bool}
end
end Go.Proofs.YtpehghaljefplaaW.PrintLast
