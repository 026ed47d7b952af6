/- Find, the example of the chapter, and the law of the first index. -/
import Derived.Test.YtefnfkokghhppaaPr20
import Derived.Test.YtefnfkokghhppaaPr24
import Derived.Test.YtefnfkokghhppaaPr0
import Derived.Test.YtefnfkokghhppaaPr3
set_option linter.unusedVariables false
set_option linter.unusedSimpArgs false
set_option linter.unusedSectionVars false
namespace Go.Proofs.Ytefnfkokghhppaa.Pure
open Go Go.RowKit Go.Proofs.Ytefnfkokghhppaa Go.Proofs.Ytefnfkokghhppaa.Pr Go.Proofs.YtefnfkokghhppaaW.PrintWords Go.Proofs.YtefnfkokghhppaaW.PrintLast Go.Proofs.YtefnfkokghhppaaW.PrintMore
theorem awake_ev : Ev (fun K => treemergelaw30_awake.f K) true := ⟨60, fun k hk => at_rounds (fun j => treemergelaw30_awake.mono j) hk (by unfold treemergelaw30_awake.f; rw [if_pos (by decide +kernel)])⟩
theorem awake_some : Ev (fun K => (treemergelaw30_awake.f K).bind fun t => some t) true := Ev.bind awake_ev (Ev.now true)
theorem rd_nat (l : List Int) (i : Nat) : rd l (i : Int) = l.getD i 0 := by unfold rd; rw [Int.toNat_natCast]
end Go.Proofs.Ytefnfkokghhppaa.Pure
