/- The law of the chunks. -/
import Derived.Test.YthndapjkjibocaaPmd
import Derived.Test.YthndapjkjibocaaPr14
set_option linter.unusedVariables false
set_option linter.unusedSimpArgs false
set_option linter.unusedSectionVars false
namespace Go.Proofs.Ythndapjkjibocaa.Pure
open Go Go.RowKit Go.Proofs.Ythndapjkjibocaa Go.Proofs.Ythndapjkjibocaa.Pr Go.Proofs.YthndapjkjibocaaW.PrintWords Go.Proofs.YthndapjkjibocaaW.PrintLast Go.Proofs.YthndapjkjibocaaW.PrintMore
theorem same_chunks (l : List S38) (hl : l.length ≤ 1000000) (hs : ∀ c ∈ l, c.f1.length ≤ 1000000 ∧ c.f2.length ≤ 1000000 ∧ c.f3.length ≤ 1000000) : Ev (fun K => treemergeref29_SameChunks.f K l l) true := by
  have key : ∀ (d i : Nat), d + i = l.length → Ev (fun K => treemergeref29_SameChunks.l0 K l l (i : Int)) true := by
    intro d
    induction d with
    | zero =>
      intro i hd
      exact Ev.step (f := fun _ => some true) (fun K => by rw [treemergeref29_SameChunks.l0, if_neg (by omega)]) (Ev.now _)
    | succ d ih =>
      intro i hd
      have hi : i < l.length := by omega
      have w1 : Fact (wrap64 ((i : Int) + 1) = ((i + 1 : Nat) : Int)) := ⟨w64' (by omega) (by omega) (by omega)⟩
      have r1 := rdH_get hi
      have b := hs l[i] (List.getElem_mem hi)
      have g1 := rsame_ev l[i].f1 l[i].f1 (by omega) (by omega)
      have g2 := rsame_ev l[i].f2 l[i].f2 (by omega) (by omega)
      have g3 := rsame_ev l[i].f3 l[i].f3 (by omega) (by omega)
      rw [decide_eq_true rfl] at g1 g2 g3
      refine Ev.step (f := fun K => (treemergeref03_Strings.f K l[i].f1 l[i].f1).bind fun t => if t = true then ((treemergeref03_Strings.f K l[i].f2 l[i].f2).bind fun t => if t = true then ((treemergeref03_Strings.f K l[i].f3 l[i].f3).bind fun t => if t = true then treemergeref29_SameChunks.l0 K l l ((i + 1 : Nat) : Int) else some false) else some false) else some false) (fun K => ?_) (Ev.bind g1 (Ev.congr (fun K => if_pos rfl) (Ev.bind g2 (Ev.congr (fun K => if_pos rfl) (Ev.bind g3 (Ev.congr (fun K => if_pos rfl) (ih (i + 1) (by omega))))))))
      rw [treemergeref29_SameChunks.l0, if_pos (by omega), if_pos (by omega), if_pos (by omega), r1, if_pos rfl, w1.out]
  exact Ev.congr (fun K => by rw [treemergeref29_SameChunks.f, if_pos rfl]; rfl) (key l.length 0 (by omega))
theorem Diff3Chunks_ev (a b c : ByteArray) : ∃ k, treemergelaw29_Diff3Chunks.f k a b c = some true := by
  refine Ev.rounds (g := fun k => treemergelaw29_Diff3Chunks.f k a b c) ?_
  by_cases ha : a.size ≤ 300
  case neg => exact Ev.congr (fun K => by rw [treemergelaw29_Diff3Chunks.f, treemergelaw29_short.f, if_neg (by omega), Option.bind_some, if_neg (by simp)]) awake_some
  by_cases hb : b.size ≤ 300
  case neg => exact Ev.congr (fun K => by rw [treemergelaw29_Diff3Chunks.f, treemergelaw29_short.f, if_pos (by omega), if_neg (by omega), Option.bind_some, if_neg (by simp)]) awake_some
  by_cases hc : c.size ≤ 300
  case neg => exact Ev.congr (fun K => by rw [treemergelaw29_Diff3Chunks.f, treemergelaw29_short.f, if_pos (by omega), if_pos (by omega), Option.bind_some, if_neg (by simpa using (by omega : ¬ ((c.size : Int) ≤ 300)))]) awake_some
  have sh : treemergelaw29_short.f a b c = some true := by
    rw [treemergelaw29_short.f, if_pos (by omega), if_pos (by omega), decide_eq_true (by omega)]
  obtain ⟨s1, s2, s3, s4⟩ := chs_small a b c ha hb hc
  refine Ev.congr (fun K => by rw [treemergelaw29_Diff3Chunks.f, sh, Option.bind_some, if_pos rfl]) (Ev.bind (chunks_ev a b c ha hb hc) (Ev.bind (rchunks_ev a b c ha hb hc) (Ev.bind awake_ev (Ev.congr (fun K => if_pos rfl) (Ev.congr (fun K => if_pos rfl) (Ev.bind (same_chunks ((chs a b c).map toC) (by rw [List.length_map]; omega) (fun d hd => ?_)) (Ev.now true)))))))
  obtain ⟨e, he, rfl⟩ := List.mem_map.1 hd
  have := s1 e he
  exact ⟨by show e.base.length ≤ _; omega, by show e.left.length ≤ _; omega, by show e.right.length ≤ _; omega⟩
end Go.Proofs.Ythndapjkjibocaa.Pure
