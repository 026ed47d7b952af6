/- The law of the parts. -/
import Derived.Test.YthndapjkjibocaaPmb
import Derived.Test.YthndapjkjibocaaPr30
set_option linter.unusedVariables false
set_option linter.unusedSimpArgs false
set_option linter.unusedSectionVars false
namespace Go.Proofs.Ythndapjkjibocaa.Pure
open Go Go.RowKit Go.Proofs.Ythndapjkjibocaa Go.Proofs.Ythndapjkjibocaa.Pr Go.Proofs.YthndapjkjibocaaW.PrintWords Go.Proofs.YthndapjkjibocaaW.PrintLast Go.Proofs.YthndapjkjibocaaW.PrintMore
theorem append2_ev (a b : List ByteArray) (ha : a.length ≤ 1000000) (hb : b.length ≤ 1000000) : Ev (fun K => treemergelaw29_append2.f K a b) (a ++ b) := by
  have key : ∀ (d i : Nat), d + i = b.length → Ev (fun K => treemergelaw29_append2.l0 K (a ++ b.take i) b (i : Int)) (a ++ b) := by
    intro d
    induction d with
    | zero =>
      intro i hd
      rw [List.take_of_length_le (by omega)]
      exact Ev.step (f := fun _ => some (a ++ b)) (fun K => by rw [treemergelaw29_append2.l0, if_neg (by omega)]) (Ev.now _)
    | succ d ih =>
      intro i hd
      have hi : i < b.length := by omega
      have w1 : Fact (wrap64 ((i : Int) + 1) = ((i + 1 : Nat) : Int)) := ⟨w64' (by omega) (by omega) (by omega)⟩
      have e : a ++ b.take i ++ [b[i]] = a ++ b.take (i + 1) := by rw [List.append_assoc, List.take_add_one, List.getElem?_eq_getElem hi]; rfl
      refine Ev.step (fun K => ?_) (ih (i + 1) (by omega))
      rw [treemergelaw29_append2.l0, if_pos (by omega), if_pos (by omega), if_pos (by rw [List.length_append, List.length_take]; omega), rdOf_get hi, e, w1.out]
  have h := key b.length 0 (by omega)
  rw [List.take_zero, List.append_nil] at h
  exact Ev.congr (fun K => by rw [treemergelaw29_append2.f]; rfl) h
theorem want_kd (b l r : List ByteArray) : wantF (decide (l = b)) (decide (r = b)) (decide (l = r)) = D3Math.kd b l r := by
  unfold wantF D3Math.kd
  by_cases h1 : l = b <;> by_cases h2 : r = b <;> by_cases h3 : l = r <;> simp [h1, h2, h3]
theorem parts_loop : ∀ (cs : List (D3Math.C ByteArray)) (b x y : List ByteArray), (∀ c ∈ cs, c.kind = D3Math.kd c.base c.left c.right ∧ ¬ (c.base = [] ∧ c.left = [] ∧ c.right = [])) → b.length + (D3Math.cat D3Math.C.base cs).length ≤ 100000 → x.length + (D3Math.cat D3Math.C.left cs).length ≤ 100000 → y.length + (D3Math.cat D3Math.C.right cs).length ≤ 100000 →
    Ev (fun K => treemergelaw29_Diff3Parts.l0 K (cs.map toC) b x y) (b ++ D3Math.cat D3Math.C.base cs, x ++ D3Math.cat D3Math.C.left cs, y ++ D3Math.cat D3Math.C.right cs)
  | [], b, x, y, _, _, _, _ => by
    refine Ev.congr (f := fun _ => some (b, x, y)) (fun K => by rw [List.map_nil, treemergelaw29_Diff3Parts.l0]) ?_
    have e : ∀ (f : D3Math.C ByteArray → List ByteArray), D3Math.cat f [] = [] := fun _ => rfl
    rw [e, e, e, List.append_nil, List.append_nil, List.append_nil]
    exact Ev.now _
  | c :: cs, b, x, y, h, h1, h2, h3 => by
    obtain ⟨hk, hne⟩ := h c (List.mem_cons_self ..)
    rw [D3Math.cat_cons, List.length_append] at h1 h2 h3
    have ih := parts_loop cs (b ++ c.base) (x ++ c.left) (y ++ c.right) (fun d hd => h d (List.mem_cons_of_mem _ hd)) (by rw [List.length_append]; omega) (by rw [List.length_append]; omega) (by rw [List.length_append]; omega)
    rw [D3Math.cat_cons, D3Math.cat_cons, D3Math.cat_cons, ← List.append_assoc, ← List.append_assoc, ← List.append_assoc]
    have hn : ¬ ((toC c).f1.length = 0 ∧ (toC c).f2.length = 0 ∧ (toC c).f3.length = 0) := fun e => hne ⟨List.length_eq_zero_iff.1 e.1, List.length_eq_zero_iff.1 e.2.1, List.length_eq_zero_iff.1 e.2.2⟩
    have hw : c.kind = wantF (decide (c.left = c.base)) (decide (c.right = c.base)) (decide (c.left = c.right)) := by rw [want_kd]; exact hk
    refine Ev.congr (f := fun K => (treemergeref03_Strings.f K c.left c.base).bind fun q1 => (treemergeref03_Strings.f K c.right c.base).bind fun q2 => (treemergeref03_Strings.f K c.left c.right).bind fun q3 => if c.kind = wantF q1 q2 q3 then ((treemergelaw29_append2.f K b c.base).bind fun b2 => (treemergelaw29_append2.f K x c.left).bind fun x2 => (treemergelaw29_append2.f K y c.right).bind fun y2 => treemergelaw29_Diff3Parts.l0 K (cs.map toC) b2 x2 y2) else none) (fun K => by rw [List.map_cons, treemergelaw29_Diff3Parts.l0, if_pos hn]; rfl) (Ev.bind (rsame_ev c.left c.base (by omega) (by omega)) (Ev.bind (rsame_ev c.right c.base (by omega) (by omega)) (Ev.bind (rsame_ev c.left c.right (by omega) (by omega)) (Ev.congr (fun K => if_pos hw) ?_))))
    exact Ev.bind (append2_ev b c.base (by omega) (by omega)) (Ev.bind (append2_ev x c.left (by omega) (by omega)) (Ev.bind (append2_ev y c.right (by omega) (by omega)) ih))
theorem Diff3Parts_ev (a b c : ByteArray) : ∃ k, treemergelaw29_Diff3Parts.f k a b c = some true := by
  refine Ev.rounds (g := fun k => treemergelaw29_Diff3Parts.f k a b c) ?_
  by_cases ha : a.size ≤ 300
  case neg => exact Ev.congr (fun K => by rw [treemergelaw29_Diff3Parts.f, treemergelaw29_short.f, if_neg (by omega), Option.bind_some, if_neg (by simp)]) awake_ev
  by_cases hb : b.size ≤ 300
  case neg => exact Ev.congr (fun K => by rw [treemergelaw29_Diff3Parts.f, treemergelaw29_short.f, if_pos (by omega), if_neg (by omega), Option.bind_some, if_neg (by simp)]) awake_ev
  by_cases hc : c.size ≤ 300
  case neg => exact Ev.congr (fun K => by rw [treemergelaw29_Diff3Parts.f, treemergelaw29_short.f, if_pos (by omega), if_pos (by omega), Option.bind_some, if_neg (by simpa using (by omega : ¬ ((c.size : Int) ≤ 300)))]) awake_ev
  have sh : treemergelaw29_short.f a b c = some true := by
    rw [treemergelaw29_short.f, if_pos (by omega), if_pos (by omega), decide_eq_true (by omega)]
  obtain ⟨s1, s2, s3, s4⟩ := chs_small a b c ha hb hc
  have la := linesOf_length a
  have lb := linesOf_length b
  have lc := linesOf_length c
  have e1 : D3Math.cat D3Math.C.base (chs a b c) = linesOf a := D3Math.chunks_base _ _ _
  have e2 : D3Math.cat D3Math.C.left (chs a b c) = linesOf b := D3Math.chunks_left _ _ _
  have e3 : D3Math.cat D3Math.C.right (chs a b c) = linesOf c := D3Math.chunks_right _ _ _
  have hp := parts_loop (chs a b c) [] [] [] (fun d hd => D3Math.chunks_each _ _ _ d hd) (by rw [e1]; simp only [List.length_nil]; omega) (by rw [e2]; simp only [List.length_nil]; omega) (by rw [e3]; simp only [List.length_nil]; omega)
  rw [e1, e2, e3, List.nil_append, List.nil_append, List.nil_append] at hp
  have same : ∀ (s : ByteArray), s.size ≤ 300 → Ev (fun K => treemergeref03_Strings.f K (linesOf s) (linesOf s)) true := fun s hs => by
    have l := linesOf_length s
    have h := rsame_ev (linesOf s) (linesOf s) (by omega) (by omega)
    rw [decide_eq_true rfl] at h
    exact h
  refine Ev.congr (fun K => by rw [treemergelaw29_Diff3Parts.f, sh, Option.bind_some, if_pos rfl, treemergelaw29_Diff3Parts.g]) (Ev.bind (chunks_ev a b c ha hb hc) (Ev.congr (fun K => if_pos (show (0 : Int) = 0 ∧ ((chs a b c).map toC).length < 1099511627776 from ⟨rfl, by rw [List.length_map]; omega⟩)) (Ev.bind hp (Ev.bind awake_ev (Ev.congr (fun K => if_pos rfl) (Ev.bind (rsplit_ev a (by omega)) (Ev.bind (same a ha) (Ev.congr (fun K => if_pos rfl) (Ev.bind (rsplit_ev b (by omega)) (Ev.bind (same b hb) (Ev.congr (fun K => if_pos rfl) (Ev.bind (rsplit_ev c (by omega)) (Ev.bind (same c hc) (Ev.congr (fun K => if_pos rfl) (Ev.now true)))))))))))))))
end Go.Proofs.Ythndapjkjibocaa.Pure
