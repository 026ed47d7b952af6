/- Words of the print that this claim comes to. -/
import Derived.Test.YtmaolpoapafjiaaWWords
namespace Go.Proofs.YtmaolpoapafjiaaW.PrintWords
open Go.RowKit
section
variable {P : Program} {ops : Array Oper} {rest : List Oper} {o : Oper} {a : Act} {Q : Exit → Act → World → Prop} {W : World}
end
end Go.Proofs.YtmaolpoapafjiaaW.PrintWords
