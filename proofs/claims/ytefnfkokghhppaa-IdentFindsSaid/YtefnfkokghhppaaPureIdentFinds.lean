/- The law of the first index, for every list and every number. -/
import Derived.Test.YtefnfkokghhppaaPma
namespace Go.Proofs.Ytefnfkokghhppaa.Pure
open Go.RowKit Go.Proofs.Ytefnfkokghhppaa.Pr Go.Proofs.YtefnfkokghhppaaW.PrintWords Go.Proofs.YtefnfkokghhppaaW.PrintLast
theorem IdentFinds : treemergelaw30_IdentFinds.Pure := IdentFinds_pure
end Go.Proofs.Ytefnfkokghhppaa.Pure
