/- Find, the example of the chapter, and the law of the first index. -/
import Derived.Test.YtefnfkokghhppaaPr20
import Derived.Test.YtefnfkokghhppaaPr24
import Derived.Test.YtefnfkokghhppaaPr0
import Derived.Test.YtefnfkokghhppaaPr3
set_option linter.unusedVariables false
set_option linter.unusedSimpArgs false
set_option linter.unusedSectionVars false
namespace Go.Proofs.Ytefnfkokghhppaa.Pure
open Go Go.RowKit Go.Proofs.Ytefnfkokghhppaa Go.Proofs.Ytefnfkokghhppaa.Pr Go.Proofs.YtefnfkokghhppaaW.PrintWords Go.Proofs.YtefnfkokghhppaaW.PrintLast Go.Proofs.YtefnfkokghhppaaW.PrintMore
theorem awake_ev : Ev (fun K => treemergelaw30_awake.f K) true := ⟨60, fun k hk => at_rounds (fun j => treemergelaw30_awake.mono j) hk (by unfold treemergelaw30_awake.f; rw [if_pos (by decide +kernel)])⟩
theorem awake_some : Ev (fun K => (treemergelaw30_awake.f K).bind fun t => some t) true := Ev.bind awake_ev (Ev.now true)
/-- the first index of a number, counted from n -/
def idx : List Int → Int → Nat → Int
  | [], _, _ => -1
  | a :: r, x, n => if a = x then (n : Int) else idx r x (n + 1)
theorem rd_nat (l : List Int) (i : Nat) : rd l (i : Int) = l.getD i 0 := by unfold rd; rw [Int.toNat_natCast]
theorem idx_cases (x : Int) : ∀ (l : List Int) (n : Nat), (idx l x n = -1 ∧ ∀ j, j < l.length → l.getD j 0 ≠ x) ∨ ∃ i, i < l.length ∧ idx l x n = ((n + i : Nat) : Int) ∧ l.getD i 0 = x ∧ ∀ j, j < i → l.getD j 0 ≠ x := by
  intro l
  induction l with
  | nil => intro n; exact Or.inl ⟨rfl, fun j h => absurd h (by simp)⟩
  | cons a r ih =>
    intro n
    by_cases h : a = x
    · exact Or.inr ⟨0, by simp, by simp [idx, h], by simp [h], fun j hj => absurd hj (by omega)⟩
    · have e : idx (a :: r) x n = idx r x (n + 1) := by rw [idx, if_neg h]
      rcases ih (n + 1) with ⟨h1, h2⟩ | ⟨i, h1, h2, h3, h4⟩
      · refine Or.inl ⟨e.trans h1, fun j hj => ?_⟩
        cases j with
        | zero => simpa using h
        | succ j => simpa using h2 j (by simpa using hj)
      · refine Or.inr ⟨i + 1, by simpa using h1, by rw [e, h2]; congr 1; omega, by simpa using h3, fun j hj => ?_⟩
        cases j with
        | zero => simpa using h
        | succ j => simpa using h4 j (by omega)
theorem find_ev (l : List Int) (x : Int) (hl : l.length < 4398046511104 * 8) : Ev (fun K => ident_Find.f K l x) (idx l x 0) := by
  have key : ∀ (d i : Nat), d + i = l.length → Ev (fun K => ident_Find.l0 K x l (l.length : Int) (i : Int)) (idx (l.drop i) x i) := by
    intro d
    induction d with
    | zero =>
      intro i hd
      rw [List.drop_of_length_le (by omega)]
      exact Ev.step (f := fun _ => some (-1)) (fun K => by rw [ident_Find.l0, if_neg (by omega)]) (Ev.now _)
    | succ d ih =>
      intro i hd
      have hi : i < l.length := by omega
      have w1 : wrap64 ((i : Int) + 1) = ((i + 1 : Nat) : Int) := by unfold wrap64; omega
      have hr : rd l (i : Int) = l[i] := by rw [rd_nat, List.getD_eq_getElem?_getD, List.getElem?_eq_getElem hi, Option.getD_some]
      rw [List.drop_eq_getElem_cons hi, idx]
      by_cases h : l[i] = x
      · rw [if_pos h]
        exact Ev.step (f := fun _ => some (i : Int)) (fun K => by rw [ident_Find.l0, if_pos (by omega), if_pos (by omega), if_pos (by omega), hr, if_pos h]) (Ev.now _)
      · rw [if_neg h]
        exact Ev.step (fun K => by rw [ident_Find.l0, if_pos (by omega), if_pos (by omega), if_pos (by omega), hr, if_neg h, w1]) (ih (i + 1) (by omega))
  exact key l.length 0 (by omega)
end Go.Proofs.Ytefnfkokghhppaa.Pure
