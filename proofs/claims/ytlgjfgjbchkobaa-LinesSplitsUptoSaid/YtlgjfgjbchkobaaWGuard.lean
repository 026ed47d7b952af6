/- Words of the print that this claim comes to. -/
import Derived.Test.YtlgjfgjbchkobaaWWords
namespace Go.Proofs.YtlgjfgjbchkobaaW.PrintWords
open Go.RowKit
section
variable {P : Program} {ops : Array Oper} {rest : List Oper} {o : Oper} {a : Act} {Q : Exit → Act → World → Prop} {W : World}
end
end Go.Proofs.YtlgjfgjbchkobaaW.PrintWords
