/- Words of the print that this claim comes to. -/
import Derived.Test.YtefnfkokghhppaaWTab
namespace Go.Proofs.YtefnfkokghhppaaW.PrintLast
section
variable {P : Program} {ops : Array Oper} {Q : Exit → Act → World → Prop} {md : Region.Mode} {S : World → Prop} {ds : List Nat} {T : Bool × List (List Nat × List Nat)}
end
end Go.Proofs.YtefnfkokghhppaaW.PrintLast
