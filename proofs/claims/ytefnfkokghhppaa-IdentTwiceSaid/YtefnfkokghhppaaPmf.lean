/- The law of equal sides. -/
import Derived.Test.YtefnfkokghhppaaPmc
import Derived.Test.YtefnfkokghhppaaPr16
set_option linter.unusedVariables false
set_option linter.unusedSimpArgs false
set_option linter.unusedSectionVars false
namespace Go.Proofs.Ytefnfkokghhppaa.Pure
open Go Go.RowKit Go.Proofs.Ytefnfkokghhppaa Go.Proofs.Ytefnfkokghhppaa.Pr Go.Proofs.YtefnfkokghhppaaW.PrintWords Go.Proofs.YtefnfkokghhppaaW.PrintLast Go.Proofs.YtefnfkokghhppaaW.PrintMore
theorem twice_law (a b : S25) (l : List S49) (ga : Opens.nok a) (gb : Opens.nok b) : Ev (fun K => treemergelaw30_IdentTwice.f K a.f0 a.f1 a.f2 a.f3 b.f0 b.f1 b.f2 b.f3 l) true := by
  obtain ⟨v, h1, h2⟩ := small_evW a b b l l
  have wake : Ev (fun K => treemergelaw30_IdentTwice.j0 K l true a.f0 a.f1 a.f2 a.f3 b.f0 b.f1 b.f2 b.f3) true := Ev.step (fun K => by rw [treemergelaw30_IdentTwice.j0, if_pos rfl]) awake_some
  cases v with
  | false => exact Ev.congr (fun K => rfl) (Ev.bind h1 (Ev.congr (fun K => if_neg Bool.false_ne_true) wake))
  | true =>
    obtain ⟨za, zb, _, z3, _⟩ := h2 rfl
    have k := rcheck_ev a b l (by omega) (by omega) (by omega)
    refine Ev.congr (fun K => rfl) (Ev.bind h1 (Ev.congr (fun K => if_pos rfl) (Ev.bind k ?_)))
    by_cases e : chkV a b l = 0
    case neg => rw [bne_iff_ne.mpr e]; exact wake
    rw [bne_eq_false_iff_eq.mpr e]
    obtain ⟨t, t1, t2, t3, t4⟩ := twice_val zb e
    have e1 := assign_ok a b b l l za zb zb (gok_ofW a ga) (gok_ofW b gb) (gok_ofW b gb) z3 z3 e e t t1 t2
    rw [t3] at e1
    have lb := tab_len b
    have hw : (wrap64 ((cr a b b l l t : Int) - (sz a : Int))) = wrap64 (((lfs a b l).length : Int) - (l.length : Int)) := by
      rw [lfs_len]
      congr 1
      omega
    refine Ev.step (fun K => by rw [treemergelaw30_IdentTwice.j0, if_neg Bool.false_ne_true]) (Ev.bind e1 (Ev.congr (fun K => if_pos rfl) (Ev.bind (ints_evW (lfs a b l) (by rw [lfs_len]; omega)) (Ev.congr (fun K => if_pos rfl) (Ev.bind (rsize_ev a (by omega)) ?_)))))
    exact Ev.congr (fun K => if_pos hw) awake_some
end Go.Proofs.Ytefnfkokghhppaa.Pure
