/- For any two lists of strings the law LcsStrings returns true. -/
import Derived.Test.YtajgcpfokpmidaaPmb
import Derived.Test.YtajgcpfokpmidaaPr12
set_option linter.unusedVariables false
set_option linter.unusedSimpArgs false
namespace Go.Proofs.Ytajgcpfokpmidaa.Pure
open Go.RowKit Go.Proofs.Ytajgcpfokpmidaa.Pr Go.Proofs.YtajgcpfokpmidaaW.PrintWords Go.Proofs.YtajgcpfokpmidaaW.PrintLast Go.Proofs.YtajgcpfokpmidaaW.PrintMore

theorem LcsStrings_ev (a b : List ByteArray) : ∃ k, treemergelaw19_LcsStrings.f k a b = some true := by
  refine Ev.rounds (g := fun k => treemergelaw19_LcsStrings.f k a b) ?_
  have long : Ev (fun K => treemergelaw19_LcsStrings.j0 K a b true) true := by
    refine Ev.step (fun K => ?_) awake_some
    rw [treemergelaw19_LcsStrings.j0, if_pos rfl]
  by_cases ha : a.length > 60
  · exact Ev.congr (fun K => by rw [treemergelaw19_LcsStrings.f, if_pos (by omega)]) long
  · refine Ev.congr (f := fun K => treemergelaw19_LcsStrings.j0 K a b (decide ((b.length : Int) > 60))) (fun K => by rw [treemergelaw19_LcsStrings.f, if_neg (by omega)]) ?_
    by_cases hb : b.length > 60
    · rw [decide_eq_true (by omega)]; exact long
    · rw [decide_eq_false (by omega)]
      have hl := first_le a b
      refine Ev.step (fun K => (treemergelaw19_LcsStrings.j0.eq_2 a b false K).trans (if_neg (by simp))) ?_
      have ha' : a.length ≤ 1000000 := by omega
      have hb' : b.length ≤ 1000000 := by omega
      have hp : (prs (LcsMath.first a b 0 0)).length ≤ 100000000 := by rw [prs_length]; omega
      refine Ev.bind (Strings_ev a b ha' hb') ?_
      refine Ev.bind (RefStrings_ev a b ha' hb') ?_
      refine Ev.bind (Pairs_ev _ hp) ?_
      exact Ev.congr (fun K => if_pos rfl) awake_some


end Go.Proofs.Ytajgcpfokpmidaa.Pure
