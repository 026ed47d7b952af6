/- Trees and their tables; the check of mappings, nodes that correspond, the twins, what Assign answers: the program alone. -/
import Derived.Test.YtefnfkokghhppaaPma
import Derived.Test.YtefnfkokghhppaaPr3
import Derived.Test.YtefnfkokghhppaaPr1
import Derived.Test.YtefnfkokghhppaaCr
import Derived.Test.YtefnfkokghhppaaPr0
import Derived.Test.YtefnfkokghhppaaPr4
import Derived.Test.YtefnfkokghhppaaIdg
import Derived.Test.YtefnfkokghhppaaPr21
import Derived.Test.YtefnfkokghhppaaOpensN
set_option linter.unusedVariables false
set_option linter.unusedSimpArgs false
set_option linter.unusedSectionVars false
namespace Go.Proofs.Ytefnfkokghhppaa.Pure
open Go Go.RowKit Go.Proofs.Ytefnfkokghhppaa Go.Proofs.Ytefnfkokghhppaa.Pr Go.Proofs.YtefnfkokghhppaaW.PrintWords Go.Proofs.YtefnfkokghhppaaW.PrintLast Go.Proofs.YtefnfkokghhppaaW.PrintMore
structure Fact (p : Prop) : Prop where mk :: (out : p)
theorem w64 {x : Int} (h0 : -9223372036854775808 ≤ x) (h1 : x ≤ 9223372036854775807) : wrap64 x = x := by unfold wrap64; omega
theorem w64' {x y : Int} (h : x = y) (h0 : -9223372036854775808 ≤ x) (h1 : x ≤ 9223372036854775807) : wrap64 x = y := by rw [w64 h0 h1, h]
theorem rdT_get {l : List S25} {i : Nat} (h : i < l.length) : rd_T25 l (i : Int) = l[i] := by
  unfold rd_T25
  rw [Int.toNat_natCast, List.getD_eq_getElem?_getD, List.getElem?_eq_getElem h]; rfl
mutual
def sz : S25 → Nat
  | ⟨_, _, _, c⟩ => 1 + szs c
def szs : List S25 → Nat
  | [] => 0
  | n :: r => sz n + szs r
end
mutual
def ht : S25 → Nat
  | ⟨_, _, _, c⟩ => hts c + 1
def hts : List S25 → Nat
  | [] => 0
  | n :: r => max (ht n) (hts r)
end
mutual
/-- every node's gaps are few -/
def gok : S25 → Prop
  | ⟨_, _, g, c⟩ => g.length ≤ 8796093021952 ∧ goks c
def goks : List S25 → Prop
  | [] => True
  | n :: r => gok n ∧ goks r
end
theorem sz_pos : ∀ n : S25, 1 ≤ sz n
  | ⟨_, _, _, c⟩ => by rw [sz]; omega
theorem szs_mem : ∀ {c : List S25} {n : S25}, n ∈ c → sz n ≤ szs c
  | [], _, h => by simp at h
  | m :: r, n, h => by
    rw [szs]
    rcases List.mem_cons.1 h with rfl | h
    · omega
    · have := szs_mem h; omega
theorem szs_len : ∀ c : List S25, c.length ≤ szs c
  | [] => by simp
  | n :: r => by have := szs_len r; have := sz_pos n; rw [szs, List.length_cons]; omega
theorem goks_mem : ∀ {c : List S25} {n : S25}, goks c → n ∈ c → gok n
  | [], _, _, h => by simp at h
  | m :: r, n, hg, h => by
    rw [goks] at hg
    rcases List.mem_cons.1 h with rfl | h
    · exact hg.1
    · exact goks_mem hg.2 h
/-- induction over trees -/
theorem ind {P : S25 → Prop} (h : ∀ a b g c, (∀ n ∈ c, P n) → P ⟨a, b, g, c⟩) : ∀ n, P n := by
  intro n
  have key : ∀ (m : Nat) (n : S25), sz n ≤ m → P n := by
    intro m
    induction m with
    | zero => intro n hn; have := sz_pos n; omega
    | succ m ih =>
      intro n hn
      obtain ⟨a, b, g, c⟩ := n
      rw [sz] at hn
      exact h a b g c (fun n hm => ih n (by have := szs_mem hm; omega))
  exact key (sz n) n (Nat.le_refl _)
theorem left_ev : ∀ x : S25, ∀ l d : Int, l ≤ 1000 → d ≤ 1000 → ∃ r, Ev (fun K => treemergeref06_left.f K x.f0 x.f1 x.f2 x.f3 l d) r ∧ (0 ≤ r → (sz x : Int) + r = l ∧ (ht x : Int) ≤ d) := by
  refine ind fun a b g c ih => ?_
  intro l d hl hd
  have no : Ev (fun K => treemergeref06_left.j0 K l d true a b g c) (-1) := Ev.step (f := fun _ => some (-1)) (fun K => by rw [treemergeref06_left.j0, if_pos rfl]) (Ev.now _)
  by_cases h1 : l < 1
  · exact ⟨-1, Ev.step (fun K => by rw [treemergeref06_left.f, if_pos h1]) no, fun h => by omega⟩
  by_cases h2 : d < 1
  · exact ⟨-1, Ev.step (fun K => by rw [treemergeref06_left.f, if_neg h1, if_pos h2]) no, fun h => by omega⟩
  by_cases h3 : (c.length : Int) > l
  · exact ⟨-1, Ev.step (fun K => by rw [treemergeref06_left.f, if_neg h1, if_neg h2, decide_eq_true h3]) no, fun h => by omega⟩
  rw [sz, ht]
  have key : ∀ (m i : Nat) (x : Int), m + i = c.length → 0 ≤ x → x ≤ 1000 → ∃ r, Ev (fun K => treemergeref06_left.l0 K d x i a b g c) r ∧ (0 ≤ r → (szs (c.drop i) : Int) + r = x ∧ (hts (c.drop i) : Int) + 1 ≤ d) := by
    intro m
    induction m with
    | zero =>
      intro i x hm h0 h9
      rw [List.drop_of_length_le (by omega), szs, hts]
      exact ⟨x, Ev.step (f := fun _ => some x) (fun K => by rw [treemergeref06_left.l0, if_neg (by omega)]) (Ev.now _), fun _ => by omega⟩
    | succ m ihm =>
      intro i x hm h0 h9
      have hi : i < c.length := by omega
      have w1 : Fact (wrap64 ((i : Int) + 1) = ((i + 1 : Nat) : Int)) := ⟨w64' (by omega) (by omega) (by omega)⟩
      have w2 : Fact (wrap64 (d - 1) = d - 1) := ⟨w64 (by omega) (by omega)⟩
      have er := rdT_get hi
      obtain ⟨r, h, hr⟩ := ih c[i] (List.getElem_mem hi) x (d - 1) h9 (by omega)
      rw [List.drop_eq_getElem_cons hi, szs, hts]
      have go : ∀ q, (∃ q', Ev (fun K => if r < 0 then (some (-1)) else (treemergeref06_left.l0 K d r ((i + 1 : Nat) : Int) a b g c)) q' ∧ q' = q) → Ev (fun K => treemergeref06_left.l0 K d x i a b g c) q := by
        rintro q ⟨_, hq, rfl⟩
        refine Ev.step (f := fun K => (treemergeref06_left.f K c[i].f0 c[i].f1 c[i].f2 c[i].f3 x (d - 1)).bind fun t103 => (if t103 < 0 then (some (-1)) else (treemergeref06_left.l0 K d t103 ((i + 1 : Nat) : Int) a b g c))) (fun K => ?_) (Ev.bind h hq)
        rw [treemergeref06_left.l0, if_pos (by omega), if_pos (by omega), er, w1.out, w2.out]
      by_cases hn : r < 0
      · exact ⟨-1, go _ ⟨-1, Ev.congr (fun K => if_pos hn) (Ev.now _), rfl⟩, fun h => by omega⟩
      · have h5 := hr (by omega)
        have := sz_pos c[i]
        obtain ⟨q, hq, hq'⟩ := ihm (i + 1) r (by omega) (by omega) (by omega)
        exact ⟨q, go _ ⟨q, Ev.congr (fun K => if_neg hn) hq, rfl⟩, fun h => by have := hq' h; omega⟩
  obtain ⟨r, h, hr⟩ := key c.length 0 (l - 1) (by omega) (by omega) (by omega)
  refine ⟨r, ?_, fun h => by have := hr h; rw [List.drop_zero] at this; omega⟩
  have w3 : Fact (wrap64 (l - 1) = l - 1) := ⟨w64 (by omega) (by omega)⟩
  refine Ev.step (fun K => by rw [treemergeref06_left.f, if_neg h1, if_neg h2, decide_eq_false h3]) (Ev.step (f := fun K => treemergeref06_left.l0 K d (l - 1) ((0 : Nat) : Int) a b g c) (fun K => ?_) h)
  rw [treemergeref06_left.j0, if_neg (by simp), w3.out]; rfl
/-- the numbers of the kids that begin at s -/
def kix : List S25 → Nat → List Int
  | [], _ => []
  | n :: r, s => (s : Int) :: kix r (s + sz n)
mutual
/-- the table of a tree whose root has the number s and the parent p -/
def rows : S25 → Int → Nat → List S63
  | ⟨a, b, g, c⟩, p, s => ⟨p, a, b, g, kix c (s + 1)⟩ :: rowss c (s : Int) (s + 1)
def rowss : List S25 → Int → Nat → List S63
  | [], _, _ => []
  | n :: r, p, s => rows n p s ++ rowss r p (s + sz n)
end
mutual
theorem rows_len : ∀ (n : S25) (p : Int) (s : Nat), (rows n p s).length = sz n
  | ⟨a, b, g, c⟩, p, s => by rw [rows, sz, List.length_cons, rowss_len c]; omega
theorem rowss_len : ∀ (c : List S25) (p : Int) (s : Nat), (rowss c p s).length = szs c
  | [], _, _ => rfl
  | n :: r, p, s => by rw [rowss, szs, List.length_append, rows_len n, rowss_len r]
end
theorem rdR_lt {l : List S63} {i : Nat} (m : List S63) (h : i < l.length) : rd_T63 (l ++ m) (i : Int) = rd_T63 l (i : Int) := by
  unfold rd_T63
  rw [Int.toNat_natCast, List.getD_eq_getElem?_getD, List.getD_eq_getElem?_getD, List.getElem?_append_left h]
theorem rdR_get {l : List S63} {i : Nat} (h : i < l.length) : rd_T63 l (i : Int) = l[i] := by
  unfold rd_T63
  rw [Int.toNat_natCast, List.getD_eq_getElem?_getD, List.getElem?_eq_getElem h]; rfl
theorem rdR_at (l m : List S63) (r : S63) : rd_T63 (l ++ r :: m) (l.length : Int) = r := by
  rw [rdR_get (by rw [List.length_append, List.length_cons]; omega)]
  rw [List.getElem_append_right (by omega)]; simp
theorem set_at (l m : List S63) (r r' : S63) : (l ++ r :: m).set l.length r' = l ++ r' :: m := by
  rw [List.set_append_right _ _ (by omega), Nat.sub_self, List.set_cons_zero]
theorem list_ev : ∀ n : S25, sz n ≤ 1000000 → gok n → ∀ (l : List S63) (p : Int), l.length + sz n ≤ 3000000 → Ev (fun K => tree_list.f K l n.f0 n.f1 n.f2 n.f3 p) (l ++ rows n p l.length) := by
  refine ind fun a b g c ih => ?_
  intro hs hg l p hl
  rw [sz] at hs hl
  rw [gok] at hg
  have hlen := szs_len c
  rw [rows]
  have ht : ∀ K : Nat, tree_texts.f g = some g := fun _ => by rw [tree_texts.f, if_pos (by omega)]
  by_cases h0 : c.length = 0
  · have : c = [] := List.length_eq_zero_iff.1 h0
    subst this
    rw [rowss, kix]
    refine Ev.step (f := fun _ => some (l ++ [⟨p, a, b, g, []⟩])) (fun K => ?_) (Ev.now _)
    rw [tree_list.f, if_pos (by omega), ht K, Option.bind_some, if_pos (by simp)]
  have key : ∀ (m i : Nat) (l1 : List S63) (ks : List Int) (q : Nat), m + i = c.length → ks.length = c.length → q < l1.length → l1.length + szs (c.drop i) ≤ 3000000 → Ev (fun K => tree_list.l0 K l1 c q ks i) ((l1 ++ rowss (c.drop i) q l1.length).set q ⟨(rd_T63 l1 q).f0, (rd_T63 l1 q).f1, (rd_T63 l1 q).f2, (rd_T63 l1 q).f3, ks.take i ++ kix (c.drop i) l1.length⟩) := by
    intro m
    induction m with
    | zero =>
      intro i l1 ks q hm hk hq hb
      rw [List.drop_of_length_le (by omega), rowss, kix, List.append_nil, List.append_nil, List.take_of_length_le (by omega)]
      refine Ev.step (f := fun _ => some (l1.set q ⟨(rd_T63 l1 q).f0, (rd_T63 l1 q).f1, (rd_T63 l1 q).f2, (rd_T63 l1 q).f3, ks⟩)) (fun K => ?_) (Ev.now _)
      rw [tree_list.l0, if_neg (by omega), if_pos (by omega), if_pos (by omega), Int.toNat_natCast]
    | succ m ihm =>
      intro i l1 ks q hm hk hq hb
      have hi : i < c.length := by omega
      have w1 : Fact (wrap64 ((i : Int) + 1) = ((i + 1 : Nat) : Int)) := ⟨w64' (by omega) (by omega) (by omega)⟩
      have er := rdT_get hi
      have hm' := List.getElem_mem hi
      have hz := szs_mem hm'
      rw [List.drop_eq_getElem_cons hi, szs] at hb
      refine Ev.step (f := fun K => (tree_list.f K l1 c[i].f0 c[i].f1 c[i].f2 c[i].f3 (q : Int)).bind fun l2 => tree_list.l0 K l2 c q (ks.set i (l1.length : Int)) ((i + 1 : Nat) : Int)) (fun K => ?_) (Ev.bind (ih c[i] hm' (by omega) (goks_mem hg.2 hm') l1 q (by omega)) ?_)
      · rw [tree_list.l0, if_pos (by omega), if_pos (by omega), if_pos (by omega), er, w1.out, Int.toNat_natCast]
      · have hr := rows_len c[i] q l1.length
        have := ihm (i + 1) (l1 ++ rows c[i] q l1.length) (ks.set i (l1.length : Int)) q (by omega) (by rw [List.length_set]; omega) (by rw [List.length_append]; omega) (by rw [List.length_append]; omega)
        rw [rdR_lt _ hq, List.length_append, hr] at this
        rw [List.drop_eq_getElem_cons hi, rowss, kix, ← List.append_assoc]
        rw [show (ks.set i (l1.length : Int)).take (i + 1) = ks.take i ++ [(l1.length : Int)] by rw [List.take_succ_eq_append_getElem (by rw [List.length_set]; omega), List.take_set_of_le (Nat.le_refl _), List.getElem_set_self], List.append_assoc (ks.take i)] at this
        exact this
  refine Ev.step (f := fun K => tree_list.l0 K (l ++ [⟨p, a, b, g, []⟩]) c (l.length : Nat) (List.replicate c.length 0) ((0 : Nat) : Int)) (fun K => ?_) ?_
  · rw [tree_list.f, if_pos (by omega), ht K, Option.bind_some, if_neg (show ¬ (c.length : Int) = 0 by omega), if_pos (show c.length < 1000000000000 by omega)]; rfl
  have := key c.length 0 (l ++ [⟨p, a, b, g, []⟩]) (List.replicate c.length 0) l.length (by omega) (by rw [List.length_replicate]) (by rw [List.length_append, List.length_singleton]; omega) (by rw [List.length_append, List.length_singleton, List.drop_zero]; omega)
  rw [rdR_at l [] _, List.drop_zero, List.take_zero, List.nil_append, List.length_append, List.length_singleton, List.append_assoc, List.singleton_append, set_at] at this
  exact this
theorem rrows_ev : ∀ n : S25, sz n ≤ 1000000 → ∀ (l : List S63) (p : Int), l.length + sz n ≤ 3000000 → Ev (fun K => treemergeref06_rows.f K l n.f0 n.f1 n.f2 n.f3 p) (l ++ rows n p l.length) := by
  refine ind fun a b g c ih => ?_
  intro hs l p hl
  rw [sz] at hs hl
  have hlen := szs_len c
  rw [rows]
  have key : ∀ (m i : Nat) (l1 : List S63) (ks : List Int) (q : Nat), m + i = c.length → ks.length = i → q < l1.length → l1.length + szs (c.drop i) ≤ 3000000 → Ev (fun K => treemergeref06_rows.l0 K l1 c q ks i) ((l1 ++ rowss (c.drop i) q l1.length).set q ⟨(rd_T63 l1 q).f0, (rd_T63 l1 q).f1, (rd_T63 l1 q).f2, (rd_T63 l1 q).f3, ks ++ kix (c.drop i) l1.length⟩) := by
    intro m
    induction m with
    | zero =>
      intro i l1 ks q hm hk hq hb
      rw [List.drop_of_length_le (by omega), rowss, kix, List.append_nil, List.append_nil]
      refine Ev.step (f := fun _ => some (l1.set q ⟨(rd_T63 l1 q).f0, (rd_T63 l1 q).f1, (rd_T63 l1 q).f2, (rd_T63 l1 q).f3, ks⟩)) (fun K => ?_) (Ev.now _)
      rw [treemergeref06_rows.l0, if_neg (by omega), if_pos (by omega), if_pos (by omega), Int.toNat_natCast]
    | succ m ihm =>
      intro i l1 ks q hm hk hq hb
      have hi : i < c.length := by omega
      have w1 : Fact (wrap64 ((i : Int) + 1) = ((i + 1 : Nat) : Int)) := ⟨w64' (by omega) (by omega) (by omega)⟩
      have er := rdT_get hi
      have hm' := List.getElem_mem hi
      have hz := szs_mem hm'
      rw [List.drop_eq_getElem_cons hi, szs] at hb
      refine Ev.step (f := fun K => (treemergeref06_rows.f K l1 c[i].f0 c[i].f1 c[i].f2 c[i].f3 (q : Int)).bind fun l2 => treemergeref06_rows.l0 K l2 c q (ks ++ [(l1.length : Int)]) ((i + 1 : Nat) : Int)) (fun K => ?_) (Ev.bind (ih c[i] hm' (by omega) l1 q (by omega)) ?_)
      · rw [treemergeref06_rows.l0, if_pos (by omega), if_pos (by omega), if_pos (by omega), er, w1.out]
      · have hr := rows_len c[i] q l1.length
        have := ihm (i + 1) (l1 ++ rows c[i] q l1.length) (ks ++ [(l1.length : Int)]) q (by omega) (by rw [List.length_append, List.length_singleton]; omega) (by rw [List.length_append]; omega) (by rw [List.length_append]; omega)
        rw [rdR_lt _ hq, List.length_append, hr] at this
        rw [List.drop_eq_getElem_cons hi, rowss, kix, ← List.append_assoc]
        rw [List.append_assoc ks] at this
        exact this
  refine Ev.step (f := fun K => treemergeref06_rows.l0 K (l ++ [⟨p, a, b, g, []⟩]) c (l.length : Nat) [] ((0 : Nat) : Int)) (fun K => ?_) ?_
  · rw [treemergeref06_rows.f, if_pos (by omega)]; rfl
  have := key c.length 0 (l ++ [⟨p, a, b, g, []⟩]) [] l.length (by omega) rfl (by rw [List.length_append, List.length_singleton]; omega) (by rw [List.length_append, List.length_singleton, List.drop_zero]; omega)
  rw [rdR_at l [] _, List.drop_zero, List.nil_append, List.length_append, List.length_singleton, List.append_assoc, List.singleton_append, set_at] at this
  exact this
/-- the table of a tree -/
def tab (n : S25) : List S63 := rows n (-1) 0
theorem Rows_ev (n : S25) (hs : sz n ≤ 1000000) (hg : gok n) : Ev (fun K => tree_Rows.f K n.f0 n.f1 n.f2 n.f3) (tab n) := by
  have := list_ev n hs hg [] (-1) (by simp; omega)
  rw [List.nil_append] at this
  exact Ev.congr (fun K => by rw [tree_Rows.f]) this
theorem rRows_ev (n : S25) (hs : sz n ≤ 1000000) : Ev (fun K => treemergeref06_Rows.f K n.f0 n.f1 n.f2 n.f3) (tab n) := by
  have := rrows_ev n hs [] (-1) (by simp; omega)
  rw [List.nil_append] at this
  exact Ev.congr (fun K => by rw [treemergeref06_Rows.f]) this
theorem tab_len (n : S25) : (tab n).length = sz n := rows_len n _ _
end Go.Proofs.Ytefnfkokghhppaa.Pure
namespace Go.Proofs.Ytefnfkokghhppaa.Pure
open Go Go.RowKit Go.Proofs.Ytefnfkokghhppaa Go.Proofs.Ytefnfkokghhppaa.Pr Go.Proofs.YtefnfkokghhppaaW.PrintWords Go.Proofs.YtefnfkokghhppaaW.PrintLast Go.Proofs.YtefnfkokghhppaaW.PrintMore
/-- a pair goes with the pairs before it -/
def good (x y : List S63) (p : S49) (last : Int) (seen : List Int) : Bool :=
  decide ((last < p.f0 ∧ p.f0 < (x.length : Int)) ∧ (0 ≤ p.f1 ∧ p.f1 < (y.length : Int)) ∧ p.f1 ∉ seen ∧ (rd_T63 x p.f0).f1 = (rd_T63 y p.f1).f1 ∧ (p.f0 = 0 ↔ p.f1 = 0))
end Go.Proofs.Ytefnfkokghhppaa.Pure
namespace Go.Proofs.Ytefnfkokghhppaa.Pure
open Go Go.RowKit Go.Proofs.Ytefnfkokghhppaa Go.Proofs.Ytefnfkokghhppaa.Pr Go.Proofs.YtefnfkokghhppaaW.PrintWords Go.Proofs.YtefnfkokghhppaaW.PrintLast Go.Proofs.YtefnfkokghhppaaW.PrintMore
/-- a map to the numbers below m, as a list with -1 for no entry -/
def Rel (n m : Nat) (t : List (Int × Int)) (p : List Int) : Prop :=
  p.length = n ∧ ∀ i : Nat, i < n → (mlook t (i : Int) = none ∧ rd p (i : Int) = -1) ∨ ∃ v, mlook t (i : Int) = some v ∧ rd p (i : Int) = v ∧ 0 ≤ v ∧ v < (m : Int)
theorem rd_set {p : List Int} {j : Nat} (hj : j < p.length) (v : Int) (i : Nat) : rd (p.set j v) (i : Int) = if i = j then v else rd p (i : Int) := by
  unfold rd
  rw [Int.toNat_natCast, List.getD_eq_getElem?_getD, List.getD_eq_getElem?_getD, List.getElem?_set]
  by_cases h : j = i
  · subst h
    simp [hj]
  · rw [if_neg h, if_neg (fun e => h e.symm)]
theorem Rel.put {n m : Nat} {t : List (Int × Int)} {p : List Int} (h : Rel n m t p) {j : Nat} {v : Int} (hj : j < n) (h0 : 0 ≤ v) (h1 : v < (m : Int)) : Rel n m (((j : Int), v) :: t) (p.set j v) := by
  refine ⟨by rw [List.length_set]; exact h.1, fun i hi => ?_⟩
  rw [mlook, rd_set (by rw [h.1]; exact hj)]
  by_cases e : i = j
  · subst e
    exact Or.inr ⟨v, by simp, by simp, h0, h1⟩
  · rw [if_neg (by show ¬ (j : Int) = (i : Int); omega), if_neg e]
    exact h.2 i hi
theorem Rel.none (n m : Nat) : Rel n m [] (List.replicate n (-1)) := by
  refine ⟨by simp, fun i hi => Or.inl ⟨rfl, ?_⟩⟩
  unfold rd
  rw [Int.toNat_natCast, List.getD_eq_getElem?_getD, List.getElem?_replicate, if_pos hi]
  rfl
/-- pairs, put into the map and into the list -/
def mput (l : List S49) (t : List (Int × Int)) : List (Int × Int) := l.foldl (fun t p => (p.f1, p.f0) :: t) t
def pset (l : List S49) (o : List Int) : List Int := l.foldl (fun o p => o.set p.f1.toNat p.f0) o
end Go.Proofs.Ytefnfkokghhppaa.Pure
namespace Go.Proofs.Ytefnfkokghhppaa.Pure
open Go Go.RowKit Go.Proofs.Ytefnfkokghhppaa Go.Proofs.Ytefnfkokghhppaa.Pr Go.Proofs.YtefnfkokghhppaaW.PrintWords Go.Proofs.YtefnfkokghhppaaW.PrintLast Go.Proofs.YtefnfkokghhppaaW.PrintMore
end Go.Proofs.Ytefnfkokghhppaa.Pure
namespace Go.Proofs.Ytefnfkokghhppaa.Pure
open Go Go.RowKit Go.Proofs.Ytefnfkokghhppaa Go.Proofs.Ytefnfkokghhppaa.Pr Go.Proofs.YtefnfkokghhppaaW.PrintWords Go.Proofs.YtefnfkokghhppaaW.PrintLast Go.Proofs.YtefnfkokghhppaaW.PrintMore
section
variable {y : List S63} {q : List Int}
end
section
variable {x y : List S63} {m : Nat} {tl tr : List (Int × Int)} {p q : List Int}
end
end Go.Proofs.Ytefnfkokghhppaa.Pure
namespace Go.Proofs.Ytefnfkokghhppaa.Pure
open Go Go.RowKit Go.Proofs.Ytefnfkokghhppaa Go.Proofs.Ytefnfkokghhppaa.Pr Go.Proofs.YtefnfkokghhppaaW.PrintWords Go.Proofs.YtefnfkokghhppaaW.PrintLast Go.Proofs.YtefnfkokghhppaaW.PrintMore
section
variable {x y : List S63} {m : Nat} {tl tr : List (Int × Int)} {p q : List Int}
end
end Go.Proofs.Ytefnfkokghhppaa.Pure
namespace Go.Proofs.Ytefnfkokghhppaa.Pure
open Go Go.RowKit Go.Proofs.Ytefnfkokghhppaa Go.Proofs.Ytefnfkokghhppaa.Pr Go.Proofs.YtefnfkokghhppaaW.PrintWords Go.Proofs.YtefnfkokghhppaaW.PrintLast Go.Proofs.YtefnfkokghhppaaW.PrintMore
section
variable {x y : List S63} {m : Nat} {tl tr : List (Int × Int)} {p q : List Int}
theorem mlook_mem : ∀ {t : List (Int × Int)} {k : Int}, mlook t k ≠ none ↔ k ∈ t.map (fun e => e.1)
  | [], k => by simp [mlook]
  | e :: t, k => by
    rw [mlook, List.map_cons, List.mem_cons]
    by_cases h : e.1 = k
    · rw [if_pos h]
      exact ⟨fun _ => Or.inl h.symm, fun _ h => by cases h⟩
    · rw [if_neg h, mlook_mem]
      exact ⟨Or.inr, fun h' => h'.elim (fun e => absurd e.symm h) id⟩
end
end Go.Proofs.Ytefnfkokghhppaa.Pure
namespace Go.Proofs.Ytefnfkokghhppaa.Pure
open Go Go.RowKit Go.Proofs.Ytefnfkokghhppaa Go.Proofs.Ytefnfkokghhppaa.Pr Go.Proofs.YtefnfkokghhppaaW.PrintWords Go.Proofs.YtefnfkokghhppaaW.PrintLast Go.Proofs.YtefnfkokghhppaaW.PrintMore
/-- how many numbers below n have a property -/
def cnt (f : Nat → Bool) (n : Nat) : Nat := ((List.range n).filter f).length
theorem cnt_succ (f : Nat → Bool) (n : Nat) : cnt f (n + 1) = cnt f n + if f n = true then 1 else 0 := by
  unfold cnt
  rw [List.range_succ, List.filter_append, List.length_append]
  congr 1
  cases h : f n <;> simp [h]
theorem cnt_mono (f : Nat → Bool) {a : Nat} : ∀ {b : Nat}, a ≤ b → cnt f a ≤ cnt f b := fun {b} h => by
  induction b with
  | zero => rw [show a = 0 by omega]; exact Nat.le_refl _
  | succ b ih =>
    by_cases e : a = b + 1
    · rw [e]; exact Nat.le_refl _
    · rw [cnt_succ]; have := ih (by omega); omega
theorem cnt_congr {f g : Nat → Bool} : ∀ {n : Nat}, (∀ i, i < n → f i = g i) → cnt f n = cnt g n
  | 0, _ => rfl
  | n + 1, h => by rw [cnt_succ, cnt_succ, cnt_congr (fun i hi => h i (by omega)), h n (by omega)]
theorem cnt_or {f g : Nat → Bool} : ∀ {n : Nat}, (∀ i, i < n → f i = true → g i = true → False) → cnt (fun i => f i || g i) n = cnt f n + cnt g n
  | 0, _ => rfl
  | n + 1, h => by
    rw [cnt_succ, cnt_succ, cnt_succ, cnt_or (fun i hi => h i (by omega))]
    have := h n (by omega)
    cases h1 : f n <;> cases h2 : g n <;> simp_all <;> omega
theorem cnt_none {f : Nat → Bool} : ∀ {n : Nat}, (∀ i, i < n → f i = false) → cnt f n = 0
  | 0, _ => rfl
  | n + 1, h => by rw [cnt_succ, cnt_none (fun i hi => h i (by omega)), h n (by omega)]; rfl
theorem cnt_one {v : Int} : ∀ {n : Nat}, 0 ≤ v → v < (n : Int) → cnt (fun j => decide ((j : Int) = v)) n = 1
  | 0, h0, h1 => by omega
  | n + 1, h0, h1 => by
    rw [cnt_succ]
    by_cases e : (n : Int) = v
    · rw [cnt_none (fun i hi => decide_eq_false (by omega)), if_pos (decide_eq_true e)]
    · rw [cnt_one h0 (by omega), if_neg (fun h => e (of_decide_eq_true h))]
def unm (p : List Int) (j : Nat) : Bool := decide (rd p (j : Int) < 0)
def frB (q : List Int) (t : List (Int × Int)) (j : Nat) : Bool := decide (rd q (j : Int) < 0) && (mlook t (j : Int)).isNone
section
variable {x y : List S63} {m : Nat} {tl tr t : List (Int × Int)} {p q : List Int}
end
abbrev pOf (l : List S49) (n : Nat) : List Int := pset l (List.replicate n (-1))
def cl (a b : S25) (l : List S49) : Nat := sz a + cnt (unm (pOf l (tab b).length)) (tab b).length
def cr (a b c : S25) (l r : List S49) (t : List (Int × Int)) : Nat := cl a b l + cnt (frB (pOf r (tab c).length) t) (tab c).length
end Go.Proofs.Ytefnfkokghhppaa.Pure
namespace Go.Proofs.Ytefnfkokghhppaa.Pure
open Go Go.RowKit Go.Proofs.Ytefnfkokghhppaa Go.Proofs.Ytefnfkokghhppaa.Pr Go.Proofs.YtefnfkokghhppaaW.PrintWords Go.Proofs.YtefnfkokghhppaaW.PrintLast Go.Proofs.YtefnfkokghhppaaW.PrintMore
section
variable {x y : List S63} {m : Nat} {tl tr : List (Int × Int)} {p q : List Int}
end
end Go.Proofs.Ytefnfkokghhppaa.Pure
namespace Go.Proofs.Ytefnfkokghhppaa.Pure
open Go Go.RowKit Go.Proofs.Ytefnfkokghhppaa Go.Proofs.Ytefnfkokghhppaa.Pr Go.Proofs.YtefnfkokghhppaaW.PrintWords Go.Proofs.YtefnfkokghhppaaW.PrintLast Go.Proofs.YtefnfkokghhppaaW.PrintMore
theorem tab_root (n : S25) : (rd_T63 (tab n) 0).f1 = n.f0 := by
  obtain ⟨a, b, g, c⟩ := n
  unfold tab
  rw [rows]
  rfl
/-- what an accepted mapping says of the partners -/
structure MP (a b : S25) (l : List S49) : Prop where
  rel : Rel (tab b).length (tab a).length (mput l []) (pOf l (tab b).length)
  val : ∀ e ∈ l, (0 ≤ e.f1 ∧ e.f1 < ((tab b).length : Int)) ∧ rd (pOf l (tab b).length) e.f1 = e.f0 ∧ 0 ≤ e.f0 ∧ e.f0 < ((tab a).length : Int)
  mem : ∀ j : Nat, j < (tab b).length → 0 ≤ rd (pOf l (tab b).length) (j : Int) → ∃ e ∈ l, e.f1 = (j : Int)
  inj : ∀ i j : Nat, i < (tab b).length → j < (tab b).length → 0 ≤ rd (pOf l (tab b).length) (i : Int) → rd (pOf l (tab b).length) (i : Int) = rd (pOf l (tab b).length) (j : Int) → i = j
  kind : ∀ j : Nat, j < (tab b).length → 0 ≤ rd (pOf l (tab b).length) (j : Int) → (rd_T63 (tab a) (rd (pOf l (tab b).length) (j : Int))).f1 = (rd_T63 (tab b) (j : Int)).f1
  zero : ∀ j : Nat, j < (tab b).length → 0 ≤ rd (pOf l (tab b).length) (j : Int) → (rd (pOf l (tab b).length) (j : Int) = 0 ↔ j = 0)
  root : 0 ≤ rd (pOf l (tab b).length) 0 ↔ b.f0 = a.f0
  cnt : cnt (unm (pOf l (tab b).length)) (tab b).length + l.length = (tab b).length
theorem cnt_not {f : Nat → Bool} : ∀ n, cnt f n + cnt (fun j => !f j) n = n
  | 0 => rfl
  | n + 1 => by
    rw [cnt_succ, cnt_succ]
    have := cnt_not (f := f) n
    cases h : f n <;> simp <;> omega
end Go.Proofs.Ytefnfkokghhppaa.Pure
namespace Go.Proofs.Ytefnfkokghhppaa.Pure
open Go Go.RowKit Go.Proofs.Ytefnfkokghhppaa Go.Proofs.Ytefnfkokghhppaa.Pr Go.Proofs.YtefnfkokghhppaaW.PrintWords Go.Proofs.YtefnfkokghhppaaW.PrintLast Go.Proofs.YtefnfkokghhppaaW.PrintMore
mutual
theorem gok_ofW : ∀ n : S25, Opens.nok n → gok n
  | ⟨a, b, g, c⟩, h => by
    rw [Opens.nok] at h
    rw [gok]
    obtain ⟨⟨_, h1⟩, h2⟩ := h
    exact ⟨by simp only [reachBytes] at h1; omega, goks_ofW c h2⟩
theorem goks_ofW : ∀ c : List S25, Opens.noks c → goks c
  | [], _ => by rw [goks]; trivial
  | n :: r, h => by
    rw [Opens.noks] at h
    rw [goks]
    exact ⟨gok_ofW n h.1, goks_ofW r h.2⟩
end
theorem fits_evW (a : S25) : ∃ v, Ev (fun K => treemergeref06_Fits.f K a.f0 a.f1 a.f2 a.f3 40 30) v ∧ (v = true → sz a ≤ 40) := by
  obtain ⟨r, h1, h2⟩ := left_ev a 40 30 (by omega) (by omega)
  refine ⟨decide (r ≥ 0), Ev.congr (fun K => rfl) (Ev.bind h1 (Ev.now _)), fun h => ?_⟩
  have := (h2 (of_decide_eq_true h)).1
  have := of_decide_eq_true h
  omega
theorem small_evW (a b c : S25) (l3 l4 : List S49) : ∃ v, Ev (fun K => treemergelaw30_small.f K a.f0 a.f1 a.f2 a.f3 b.f0 b.f1 b.f2 b.f3 c.f0 c.f1 c.f2 c.f3 l3 l4) v ∧ (v = true → sz a ≤ 40 ∧ sz b ≤ 40 ∧ sz c ≤ 40 ∧ l3.length ≤ 100 ∧ l4.length ≤ 100) := by
  obtain ⟨va, a1, a2⟩ := fits_evW a
  obtain ⟨vb, b1, b2⟩ := fits_evW b
  obtain ⟨vc, c1, c2⟩ := fits_evW c
  cases va with
  | false => exact ⟨false, Ev.congr (fun K => rfl) (Ev.bind a1 (Ev.congr (fun K => if_neg Bool.false_ne_true) (Ev.now _))), fun h => by cases h⟩
  | true =>
    cases vb with
    | false => exact ⟨false, Ev.congr (fun K => rfl) (Ev.bind a1 (Ev.congr (fun K => if_pos rfl) (Ev.bind b1 (Ev.congr (fun K => if_neg Bool.false_ne_true) (Ev.now _))))), fun h => by cases h⟩
    | true =>
      cases vc with
      | false => exact ⟨false, Ev.congr (fun K => rfl) (Ev.bind a1 (Ev.congr (fun K => if_pos rfl) (Ev.bind b1 (Ev.congr (fun K => if_pos rfl) (Ev.bind c1 (Ev.congr (fun K => if_neg Bool.false_ne_true) (Ev.now _))))))), fun h => by cases h⟩
      | true =>
        by_cases h3 : (l3.length : Int) ≤ 100
        · refine ⟨decide ((l4.length : Int) ≤ 100), Ev.congr (fun K => rfl) (Ev.bind a1 (Ev.congr (fun K => if_pos rfl) (Ev.bind b1 (Ev.congr (fun K => if_pos rfl) (Ev.bind c1 (Ev.congr (fun K => by rw [if_pos rfl, if_pos h3]) (Ev.now _))))))), fun h => ⟨a2 rfl, b2 rfl, c2 rfl, by omega, by have := of_decide_eq_true h; omega⟩⟩
        · exact ⟨false, Ev.congr (fun K => rfl) (Ev.bind a1 (Ev.congr (fun K => if_pos rfl) (Ev.bind b1 (Ev.congr (fun K => if_pos rfl) (Ev.bind c1 (Ev.congr (fun K => by rw [if_pos rfl, if_neg h3]) (Ev.now _))))))), fun h => by cases h⟩
end Go.Proofs.Ytefnfkokghhppaa.Pure
