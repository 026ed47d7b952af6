/- Merge, and the laws of the sides and of the turned sides as statements about strings. -/
import Derived.Test.YthndapjkjibocaaPma
import Derived.Test.YthndapjkjibocaaPr0
import Derived.Test.YthndapjkjibocaaPr1
import Derived.Test.YthndapjkjibocaaPr6
import Derived.Test.YthndapjkjibocaaPr8
import Derived.Test.YthndapjkjibocaaCr
import Derived.Test.YthndapjkjibocaaPr7
set_option linter.unusedVariables false
set_option linter.unusedSimpArgs false
set_option linter.unusedSectionVars false
namespace Go.Proofs.Ythndapjkjibocaa.Pure
open Go Go.RowKit Go.Proofs.Ythndapjkjibocaa Go.Proofs.Ythndapjkjibocaa.Pr Go.Proofs.YthndapjkjibocaaW.PrintWords Go.Proofs.YthndapjkjibocaaW.PrintLast Go.Proofs.YthndapjkjibocaaW.PrintMore
theorem cat_app1 (a b : List ByteArray) : StrPure.cat (a ++ b) = StrPure.cat a ++ StrPure.cat b := by unfold StrPure.cat; rw [List.flatMap_append]
theorem cat_mem_len {f : D3Math.C ByteArray → List ByteArray} {cs : List (D3Math.C ByteArray)} {c : D3Math.C ByteArray} (h : c ∈ cs) : (f c).length ≤ (D3Math.cat f cs).length := by
  obtain ⟨p, q, rfl⟩ := List.append_of_mem h
  rw [D3Math.cat_app, D3Math.cat_cons, List.length_append, List.length_append]
  omega
theorem taken_len : ∀ (cs : List (D3Math.C ByteArray)), (StrPure.cat (D3Math.cat D3Math.taken cs)).length ≤ (StrPure.cat (D3Math.cat D3Math.C.base cs)).length + (StrPure.cat (D3Math.cat D3Math.C.left cs)).length + (StrPure.cat (D3Math.cat D3Math.C.right cs)).length
  | [] => Nat.zero_le _
  | c :: cs => by
    have ih := taken_len cs
    rw [D3Math.cat_cons, D3Math.cat_cons, D3Math.cat_cons, D3Math.cat_cons, cat_app1, cat_app1, cat_app1, cat_app1]
    simp only [List.length_append]
    have : (StrPure.cat (D3Math.taken c)).length ≤ (StrPure.cat c.base).length + (StrPure.cat c.left).length + (StrPure.cat c.right).length := by
      unfold D3Math.taken
      split
      · omega
      · split <;> omega
    omega
theorem count_len : ∀ (cs : List (D3Math.C ByteArray)), (∀ c ∈ cs, ¬ (c.base = [] ∧ c.left = [] ∧ c.right = [])) → cs.length ≤ (D3Math.cat D3Math.C.base cs).length + (D3Math.cat D3Math.C.left cs).length + (D3Math.cat D3Math.C.right cs).length
  | [], _ => Nat.zero_le _
  | c :: cs, h => by
    have ih := count_len cs (fun d hd => h d (List.mem_cons_of_mem _ hd))
    have hn : 1 ≤ c.base.length + c.left.length + c.right.length := by
      apply Nat.le_of_not_lt; intro h2
      exact h c (List.mem_cons_self ..) ⟨List.length_eq_zero_iff.1 (by omega), List.length_eq_zero_iff.1 (by omega), List.length_eq_zero_iff.1 (by omega)⟩
    rw [D3Math.cat_cons, D3Math.cat_cons, D3Math.cat_cons]
    simp only [List.length_append, List.length_cons]
    omega
theorem chs_small (a b c : ByteArray) (ha : a.size ≤ 300) (hb : b.size ≤ 300) (hc : c.size ≤ 300) : (∀ d ∈ chs a b c, d.base.length ≤ 301 ∧ d.left.length ≤ 301 ∧ d.right.length ≤ 301) ∧ (chs a b c).length ≤ 903 ∧ (StrPure.cat (D3Math.cat D3Math.taken (chs a b c))).length ≤ 900 ∧ (D3Math.cat D3Math.C.base (chs a b c)).length ≤ 301 := by
  have la := linesOf_length a
  have lb := linesOf_length b
  have lc := linesOf_length c
  have e1 : D3Math.cat D3Math.C.base (chs a b c) = linesOf a := D3Math.chunks_base _ _ _
  have e2 : D3Math.cat D3Math.C.left (chs a b c) = linesOf b := D3Math.chunks_left _ _ _
  have e3 : D3Math.cat D3Math.C.right (chs a b c) = linesOf c := D3Math.chunks_right _ _ _
  have t := taken_len (chs a b c)
  have n := count_len (chs a b c) (fun d hd => (D3Math.chunks_each _ _ _ d hd).2)
  rw [e1, e2, e3, cat_lines, cat_lines, cat_lines, StrPure.size_eq, StrPure.size_eq, StrPure.size_eq] at t
  rw [e1, e2, e3] at n
  refine ⟨fun d hd => ?_, by omega, by omega, by rw [e1]; omega⟩
  have m1 := cat_mem_len (f := D3Math.C.base) hd
  have m2 := cat_mem_len (f := D3Math.C.left) hd
  have m3 := cat_mem_len (f := D3Math.C.right) hd
  rw [e1] at m1; rw [e2] at m2; rw [e3] at m3
  exact ⟨by omega, by omega, by omega⟩
theorem awake_ev : Ev (fun K => treemergelaw29_awake.f K) true := ⟨60, fun k hk => at_rounds (fun j => treemergelaw29_awake.mono j) hk (by unfold treemergelaw29_awake.f; rw [if_pos (by decide +kernel)])⟩
end Go.Proofs.Ythndapjkjibocaa.Pure
