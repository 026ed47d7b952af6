/- Words of the print that this claim comes to. -/
import Derived.SizedLaws
import Derived.ChangeSlices
namespace Go.Proofs.YthndapjkjibocaaW.PrintWords
open Go.ChangeShapes Go.WideShapes
end Go.Proofs.YthndapjkjibocaaW.PrintWords
