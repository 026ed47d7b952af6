/- Words of the print that this claim comes to. -/
import Derived.Test.YtefnfkokghhppaaWWords
import Derived.Laws.StructEq
namespace Go.Proofs.YtefnfkokghhppaaW.PrintWords
open Go.RowKit
section
variable {P : Program} {d : Nat} {xs ys : Array Value} {f : Field} {fs : List Field} {a b : Value} {r s : Bool} {w : World}
end
end Go.Proofs.YtefnfkokghhppaaW.PrintWords
