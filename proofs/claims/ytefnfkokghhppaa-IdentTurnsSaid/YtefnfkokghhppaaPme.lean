/- The law of exchanged sides. -/
import Derived.Test.YtefnfkokghhppaaPmc
import Derived.Test.YtefnfkokghhppaaPr28
set_option linter.unusedVariables false
set_option linter.unusedSimpArgs false
set_option linter.unusedSectionVars false
namespace Go.Proofs.Ytefnfkokghhppaa.Pure
open Go Go.RowKit Go.Proofs.Ytefnfkokghhppaa Go.Proofs.Ytefnfkokghhppaa.Pr Go.Proofs.YtefnfkokghhppaaW.PrintWords Go.Proofs.YtefnfkokghhppaaW.PrintLast Go.Proofs.YtefnfkokghhppaaW.PrintMore
theorem turns_law (a b c : S25) (l3 l4 : List S49) (ga : Opens.nok a) (gb : Opens.nok b) (gc : Opens.nok c) : Ev (fun K => treemergelaw30_IdentTurns.f K a.f0 a.f1 a.f2 a.f3 b.f0 b.f1 b.f2 b.f3 c.f0 c.f1 c.f2 c.f3 l3 l4) true := by
  obtain ⟨v, h1, h2⟩ := small_evW a b c l3 l4
  cases v with
  | false => exact Ev.congr (fun K => rfl) (Ev.bind h1 (Ev.congr (fun K => if_neg Bool.false_ne_true) awake_some))
  | true =>
    obtain ⟨za, zb, zc, z3, z4⟩ := h2 rfl
    refine Ev.congr (fun K => rfl) (Ev.bind h1 (Ev.congr (fun K => if_pos rfl) ?_))
    rcases assign_full a b c l3 l4 za zb zc (gok_ofW a ga) (gok_ofW b gb) (gok_ofW c gc) z3 z4 with ⟨n1, e1⟩ | ⟨p1, t, i1, c1, e1⟩
    · rcases assign_full a c b l4 l3 za zc zb (gok_ofW a ga) (gok_ofW c gc) (gok_ofW b gb) z4 z3 with ⟨n2, e2⟩ | ⟨p2, t2, i2, c2, e2⟩
      · exact Ev.bind e1 (Ev.bind e2 (Ev.congr (fun K => by rw [if_pos rfl, if_pos rfl, if_pos rfl, if_pos rfl]) awake_some))
      · exact absurd ⟨p2.2, p2.1⟩ n1
    · rcases assign_full a c b l4 l3 za zc zb (gok_ofW a ga) (gok_ofW c gc) (gok_ofW b gb) z4 z3 with ⟨n2, e2⟩ | ⟨p2, t2, i2, c2, e2⟩
      · exact absurd ⟨p1.2, p1.1⟩ n2
      · have hc := turn_count (a := a) zb zc i1 c1 i2 c2
        refine Ev.bind e1 (Ev.bind e2 (Ev.congr (fun K => ?_) awake_some))
        show (if (0 : Int) = 0 then _ else _) = _
        rw [if_pos rfl, if_pos (show (cr a b c l3 l4 t : Int) = (cr a c b l4 l3 t2 : Int) by rw [hc]), if_pos (show ((lfs a b l3).length : Int) = ((rfs a c b l4 l3 t2).length : Int) by rw [lfs_len, rfs_len]), if_pos (show ((rfs a b c l3 l4 t).length : Int) = ((lfs a c l4).length : Int) by rw [lfs_len, rfs_len])]
end Go.Proofs.Ytefnfkokghhppaa.Pure
