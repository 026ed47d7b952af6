/- Words of the print that this claim comes to. -/
import Derived.SizedLaws
import Derived.ChangeSlices
namespace Go.Proofs.YtefnfkokghhppaaW.PrintWords
open Go.ChangeShapes Go.WideShapes
end Go.Proofs.YtefnfkokghhppaaW.PrintWords
